/- Go functions of this seat as plain Lean functions, each with a proof that its call comes to just what that function says, wherever that function says anything: written by a program of this session. -/
import Derived.Test.YtnmmhfpekeeedaaPCx0
import Derived.Test.YtnmmhfpekeeedaaPCx3
namespace Go.Proofs.Ytnmmhfpekeeedaa.PC
open Go.RowKit Go.Proofs.YtnmmhfpekeeedaaW.PrintWords Go.Proofs.YtnmmhfpekeeedaaW.PrintLast Go.Proofs.YtnmmhfpekeeedaaW.PrintMore
attribute [local go_sem] max2_int min2_int max_two min_two max_three min_three max_four min_four   -- for this text's walks alone
set_option linter.unusedVariables false
set_option linter.unusedSimpArgs false

attribute [local go_sem] isSome_setCell
/-! ### names_Keyword: function 90 -/
mutual
def names_Keyword.j0 : Nat → ByteArray → Bool → Option (Bool)
  | 0, _, _ => none
  | k + 1, x3, x4 => if x4 = true then (some true) else (if x3.toList = ([108, 114] : List UInt8) then (names_Keyword.j1 k x3 (x3.toList == ([108, 114] : List UInt8))) else (if x3.toList = ([109, 111, 109] : List UInt8) then (names_Keyword.j1 k x3 (x3.toList == ([109, 111, 109] : List UInt8))) else (if x3.toList = ([119, 100] : List UInt8) then (names_Keyword.j1 k x3 (x3.toList == ([119, 100] : List UInt8))) else (if x3.toList = ([99, 111, 110, 115, 116] : List UInt8) then (names_Keyword.j1 k x3 (x3.toList == ([99, 111, 110, 115, 116] : List UInt8))) else (if x3.toList = ([108, 105, 110, 101] : List UInt8) then (names_Keyword.j1 k x3 (x3.toList == ([108, 105, 110, 101] : List UInt8))) else (if x3.toList = ([112, 111, 108, 121] : List UInt8) then (names_Keyword.j1 k x3 (x3.toList == ([112, 111, 108, 121] : List UInt8))) else (if x3.toList = ([101, 120, 112] : List UInt8) then (names_Keyword.j1 k x3 (x3.toList == ([101, 120, 112] : List UInt8))) else (if x3.toList = ([119, 97, 118, 101] : List UInt8) then (names_Keyword.j1 k x3 (x3.toList == ([119, 97, 118, 101] : List UInt8))) else (if x3.toList = ([99, 121, 99, 108, 101] : List UInt8) then (names_Keyword.j1 k x3 (x3.toList == ([99, 121, 99, 108, 101] : List UInt8))) else (if x3.toList = ([114, 101, 115, 116, 97, 114, 116] : List UInt8) then (names_Keyword.j1 k x3 (x3.toList == ([114, 101, 115, 116, 97, 114, 116] : List UInt8))) else (if x3.toList = ([119, 97, 114, 109] : List UInt8) then (names_Keyword.j1 k x3 (x3.toList == ([119, 97, 114, 109] : List UInt8))) else (names_Keyword.j1 k x3 (x3.toList == ([116, 104, 101, 110] : List UInt8))))))))))))))
def names_Keyword.j1 : Nat → ByteArray → Bool → Option (Bool)
  | 0, _, _ => none
  | k + 1, x3, x17 => if x17 = true then (some true) else (if x3.toList = ([115, 116, 111, 112] : List UInt8) then (some true) else (if x3.toList = ([112, 108, 97, 116, 101, 97, 117] : List UInt8) then (some true) else (if x3.toList = ([107, 101, 101, 112] : List UInt8) then (some true) else (if x3.toList = ([101, 109, 97] : List UInt8) then (some true) else (if x3.toList = ([115, 119, 97] : List UInt8) then (some true) else (if x3.toList = ([109, 105, 110] : List UInt8) then (some true) else (if x3.toList = ([109, 97, 120] : List UInt8) then (some true) else (if x3.toList = ([97, 98, 115] : List UInt8) then (some true) else (if x3.toList = ([114, 101, 108] : List UInt8) then (some true) else (some false))))))))))
end
def names_Keyword.f (k : Nat) (a0 : ByteArray) : Option (Bool) := if a0.toList = ([114, 101, 99, 105, 112, 101] : List UInt8) then (names_Keyword.j0 k a0 (a0.toList == ([114, 101, 99, 105, 112, 101] : List UInt8))) else (if a0.toList = ([115, 116, 101, 112, 115] : List UInt8) then (names_Keyword.j0 k a0 (a0.toList == ([115, 116, 101, 112, 115] : List UInt8))) else (if a0.toList = ([101, 112, 111, 99, 104] : List UInt8) then (names_Keyword.j0 k a0 (a0.toList == ([101, 112, 111, 99, 104] : List UInt8))) else (if a0.toList = ([101, 112, 111, 99, 104, 115] : List UInt8) then (names_Keyword.j0 k a0 (a0.toList == ([101, 112, 111, 99, 104, 115] : List UInt8))) else (if a0.toList = ([119, 101, 105, 103, 104, 116, 115] : List UInt8) then (names_Keyword.j0 k a0 (a0.toList == ([119, 101, 105, 103, 104, 116, 115] : List UInt8))) else (if a0.toList = ([109, 101, 116, 114, 105, 99] : List UInt8) then (names_Keyword.j0 k a0 (a0.toList == ([109, 101, 116, 114, 105, 99] : List UInt8))) else (if a0.toList = ([103, 114, 111, 117, 112] : List UInt8) then (names_Keyword.j0 k a0 (a0.toList == ([103, 114, 111, 117, 112] : List UInt8))) else (if a0.toList = ([101, 118, 97, 108] : List UInt8) then (names_Keyword.j0 k a0 (a0.toList == ([101, 118, 97, 108] : List UInt8))) else (if a0.toList = ([112, 104, 97, 115, 101] : List UInt8) then (names_Keyword.j0 k a0 (a0.toList == ([112, 104, 97, 115, 101] : List UInt8))) else (if a0.toList = ([114, 101, 115, 116] : List UInt8) then (names_Keyword.j0 k a0 (a0.toList == ([114, 101, 115, 116] : List UInt8))) else (if a0.toList = ([102, 114, 101, 101, 122, 101] : List UInt8) then (names_Keyword.j0 k a0 (a0.toList == ([102, 114, 101, 101, 122, 101] : List UInt8))) else (names_Keyword.j0 k a0 (a0.toList == ([115, 101, 116] : List UInt8)))))))))))))
theorem names_Keyword.mono_l : ∀ k, (∀ y0 y1, LeO (names_Keyword.j0 k y0 y1) (names_Keyword.j0 (k + 1) y0 y1)) ∧ (∀ y0 y1, LeO (names_Keyword.j1 k y0 y1) (names_Keyword.j1 (k + 1) y0 y1))
  | 0 => ⟨fun _ _ r h => by simp [names_Keyword.j0] at h, fun _ _ r h => by simp [names_Keyword.j1] at h⟩
  | k + 1 => by
    obtain ⟨ih0, ih1⟩ := names_Keyword.mono_l k
    refine ⟨?_, ?_⟩
    · intro y0 y1
      unfold names_Keyword.j0
      repeat' first
      | (with_reducible exact ih0 _ _)
      | (with_reducible exact ih1 _ _)
      | (with_reducible exact LeO.refl _)
      | (with_reducible exact LeO.none _)
      | (with_reducible refine LeO.ite ?_ ?_)
      | (with_reducible refine LeO.bind ?_ (fun _ => ?_))
      | exact ih0 _ _
      | exact ih1 _ _
      | exact LeO.none _
      | refine LeO.ite ?_ ?_
      | refine LeO.bind ?_ (fun _ => ?_)
    · intro y0 y1
      unfold names_Keyword.j1
      repeat' first
      | (with_reducible exact ih0 _ _)
      | (with_reducible exact ih1 _ _)
      | (with_reducible exact LeO.refl _)
      | (with_reducible exact LeO.none _)
      | (with_reducible refine LeO.ite ?_ ?_)
      | (with_reducible refine LeO.bind ?_ (fun _ => ?_))
      | exact ih0 _ _
      | exact ih1 _ _
      | exact LeO.none _
      | refine LeO.ite ?_ ?_
      | refine LeO.bind ?_ (fun _ => ?_)
theorem names_Keyword.mono : ∀ a0 k, LeO (names_Keyword.f k a0) (names_Keyword.f (k + 1) a0) := by
  intro a0 k
  obtain ⟨ih0, ih1⟩ := names_Keyword.mono_l k
  unfold names_Keyword.f
  repeat' first
      | (with_reducible exact ih0 _ _)
      | (with_reducible exact ih1 _ _)
      | (with_reducible exact LeO.refl _)
      | (with_reducible exact LeO.none _)
      | (with_reducible refine LeO.ite ?_ ?_)
      | (with_reducible refine LeO.bind ?_ (fun _ => ?_))
      | exact ih0 _ _
      | exact ih1 _ _
      | exact LeO.none _
      | refine LeO.ite ?_ ?_
      | refine LeO.bind ?_ (fun _ => ?_)
set_option maxHeartbeats 8000000 in
set_option maxRecDepth 100000 in
theorem names_Keyword.calls (k : Nat) (a0 : ByteArray) (r : Bool) (w : World) (h : names_Keyword.f k a0 = some r) :
    Calls Try.prog 90 #[.string a0] w fun e w' => e = .returned (.bool r) ∧ Drawn0 w w' := by
  have H : (if a0.toList = ([114, 101, 99, 105, 112, 101] : List UInt8) then (names_Keyword.j0 k a0 (a0.toList == ([114, 101, 99, 105, 112, 101] : List UInt8))) else (if a0.toList = ([115, 116, 101, 112, 115] : List UInt8) then (names_Keyword.j0 k a0 (a0.toList == ([115, 116, 101, 112, 115] : List UInt8))) else (if a0.toList = ([101, 112, 111, 99, 104] : List UInt8) then (names_Keyword.j0 k a0 (a0.toList == ([101, 112, 111, 99, 104] : List UInt8))) else (if a0.toList = ([101, 112, 111, 99, 104, 115] : List UInt8) then (names_Keyword.j0 k a0 (a0.toList == ([101, 112, 111, 99, 104, 115] : List UInt8))) else (if a0.toList = ([119, 101, 105, 103, 104, 116, 115] : List UInt8) then (names_Keyword.j0 k a0 (a0.toList == ([119, 101, 105, 103, 104, 116, 115] : List UInt8))) else (if a0.toList = ([109, 101, 116, 114, 105, 99] : List UInt8) then (names_Keyword.j0 k a0 (a0.toList == ([109, 101, 116, 114, 105, 99] : List UInt8))) else (if a0.toList = ([103, 114, 111, 117, 112] : List UInt8) then (names_Keyword.j0 k a0 (a0.toList == ([103, 114, 111, 117, 112] : List UInt8))) else (if a0.toList = ([101, 118, 97, 108] : List UInt8) then (names_Keyword.j0 k a0 (a0.toList == ([101, 118, 97, 108] : List UInt8))) else (if a0.toList = ([112, 104, 97, 115, 101] : List UInt8) then (names_Keyword.j0 k a0 (a0.toList == ([112, 104, 97, 115, 101] : List UInt8))) else (if a0.toList = ([114, 101, 115, 116] : List UInt8) then (names_Keyword.j0 k a0 (a0.toList == ([114, 101, 115, 116] : List UInt8))) else (if a0.toList = ([102, 114, 101, 101, 122, 101] : List UInt8) then (names_Keyword.j0 k a0 (a0.toList == ([102, 114, 101, 101, 122, 101] : List UInt8))) else (names_Keyword.j0 k a0 (a0.toList == ([115, 101, 116] : List UInt8)))))))))))))) = some r := h
  clear h
  have HC2 := Aside0.mk H
  clear H
  go_enter Try.func90, Try.ntmps90
  go_upto_if 4 with (fail)
  go_cut [4] (fun v4 wc => ∃ (kq : Nat) (x4_1 : Bool), v4 = .bool x4_1 ∧ Aside0 (names_Keyword.j0 kq a0 x4_1 = some r) ∧ Aside0 (kq ≤ k) ∧ Drawn0 w wc)
  case first =>
    have H := HC2.out
    clear HC2
    by_cases c3 : a0.toList = ([114, 101, 99, 105, 112, 101] : List UInt8)
    · rw [if_pos c3] at H
      have c3b0 : (a0.toList == ([114, 101, 99, 105, 112, 101] : List UInt8)) = true := beq_iff_eq.mpr c3
      have c3b1 : (a0.toList != ([114, 101, 99, 105, 112, 101] : List UInt8)) = false := bne_eq_false_iff_eq.mpr c3
      clear c3
      (first | rw [c3b0] | rw [c3b1] | (simp only [i64_w, i32_w]; rw [c3b0]) | skip)
      have H' := Aside0.mk H
      clear H
      go_wp2
      go_meet
      case rel => exact ⟨_, ((a0.toList == ([114, 101, 99, 105, 112, 101] : List UInt8))), (by first | rfl | (simp; done) | (simp [*]; done)), H', ⟨by first | omega | exact Nat.le_refl _⟩, by repeat (first | exact Drawn0.refl _ | apply Drawn0.step)⟩
    · rw [if_neg c3] at H
      have c3b0 : (a0.toList == ([114, 101, 99, 105, 112, 101] : List UInt8)) = false := beq_eq_false_iff_ne.mpr c3
      have c3b1 : (a0.toList != ([114, 101, 99, 105, 112, 101] : List UInt8)) = true := bne_iff_ne.mpr c3
      (first | rw [c3b0] | rw [c3b1] | (simp only [i64_w, i32_w]; rw [c3b0]) | skip)
      by_cases c4 : a0.toList = ([115, 116, 101, 112, 115] : List UInt8)
      · rw [if_pos c4] at H
        have c4b0 : (a0.toList == ([115, 116, 101, 112, 115] : List UInt8)) = true := beq_iff_eq.mpr c4
        have c4b1 : (a0.toList != ([115, 116, 101, 112, 115] : List UInt8)) = false := bne_eq_false_iff_eq.mpr c4
        clear c4
        have H' := Aside0.mk H
        clear H
        go_wp2
        go_meet
        case rel => exact ⟨_, ((a0.toList == ([115, 116, 101, 112, 115] : List UInt8))), (by first | rfl | (simp; done) | (simp [*]; done)), H', ⟨by first | omega | exact Nat.le_refl _⟩, by repeat (first | exact Drawn0.refl _ | apply Drawn0.step)⟩
      · rw [if_neg c4] at H
        have c4b0 : (a0.toList == ([115, 116, 101, 112, 115] : List UInt8)) = false := beq_eq_false_iff_ne.mpr c4
        have c4b1 : (a0.toList != ([115, 116, 101, 112, 115] : List UInt8)) = true := bne_iff_ne.mpr c4
        by_cases c5 : a0.toList = ([101, 112, 111, 99, 104] : List UInt8)
        · rw [if_pos c5] at H
          have c5b0 : (a0.toList == ([101, 112, 111, 99, 104] : List UInt8)) = true := beq_iff_eq.mpr c5
          have c5b1 : (a0.toList != ([101, 112, 111, 99, 104] : List UInt8)) = false := bne_eq_false_iff_eq.mpr c5
          clear c5
          have H' := Aside0.mk H
          clear H
          go_wp2
          go_meet
          case rel => exact ⟨_, ((a0.toList == ([101, 112, 111, 99, 104] : List UInt8))), (by first | rfl | (simp; done) | (simp [*]; done)), H', ⟨by first | omega | exact Nat.le_refl _⟩, by repeat (first | exact Drawn0.refl _ | apply Drawn0.step)⟩
        · rw [if_neg c5] at H
          have c5b0 : (a0.toList == ([101, 112, 111, 99, 104] : List UInt8)) = false := beq_eq_false_iff_ne.mpr c5
          have c5b1 : (a0.toList != ([101, 112, 111, 99, 104] : List UInt8)) = true := bne_iff_ne.mpr c5
          by_cases c6 : a0.toList = ([101, 112, 111, 99, 104, 115] : List UInt8)
          · rw [if_pos c6] at H
            have c6b0 : (a0.toList == ([101, 112, 111, 99, 104, 115] : List UInt8)) = true := beq_iff_eq.mpr c6
            have c6b1 : (a0.toList != ([101, 112, 111, 99, 104, 115] : List UInt8)) = false := bne_eq_false_iff_eq.mpr c6
            clear c6
            have H' := Aside0.mk H
            clear H
            go_wp2
            go_meet
            case rel => exact ⟨_, ((a0.toList == ([101, 112, 111, 99, 104, 115] : List UInt8))), (by first | rfl | (simp; done) | (simp [*]; done)), H', ⟨by first | omega | exact Nat.le_refl _⟩, by repeat (first | exact Drawn0.refl _ | apply Drawn0.step)⟩
          · rw [if_neg c6] at H
            have c6b0 : (a0.toList == ([101, 112, 111, 99, 104, 115] : List UInt8)) = false := beq_eq_false_iff_ne.mpr c6
            have c6b1 : (a0.toList != ([101, 112, 111, 99, 104, 115] : List UInt8)) = true := bne_iff_ne.mpr c6
            by_cases c7 : a0.toList = ([119, 101, 105, 103, 104, 116, 115] : List UInt8)
            · rw [if_pos c7] at H
              have c7b0 : (a0.toList == ([119, 101, 105, 103, 104, 116, 115] : List UInt8)) = true := beq_iff_eq.mpr c7
              have c7b1 : (a0.toList != ([119, 101, 105, 103, 104, 116, 115] : List UInt8)) = false := bne_eq_false_iff_eq.mpr c7
              clear c7
              have H' := Aside0.mk H
              clear H
              go_wp2
              go_meet
              case rel => exact ⟨_, ((a0.toList == ([119, 101, 105, 103, 104, 116, 115] : List UInt8))), (by first | rfl | (simp; done) | (simp [*]; done)), H', ⟨by first | omega | exact Nat.le_refl _⟩, by repeat (first | exact Drawn0.refl _ | apply Drawn0.step)⟩
            · rw [if_neg c7] at H
              have c7b0 : (a0.toList == ([119, 101, 105, 103, 104, 116, 115] : List UInt8)) = false := beq_eq_false_iff_ne.mpr c7
              have c7b1 : (a0.toList != ([119, 101, 105, 103, 104, 116, 115] : List UInt8)) = true := bne_iff_ne.mpr c7
              by_cases c8 : a0.toList = ([109, 101, 116, 114, 105, 99] : List UInt8)
              · rw [if_pos c8] at H
                have c8b0 : (a0.toList == ([109, 101, 116, 114, 105, 99] : List UInt8)) = true := beq_iff_eq.mpr c8
                have c8b1 : (a0.toList != ([109, 101, 116, 114, 105, 99] : List UInt8)) = false := bne_eq_false_iff_eq.mpr c8
                clear c8
                have H' := Aside0.mk H
                clear H
                go_wp2
                go_meet
                case rel => exact ⟨_, ((a0.toList == ([109, 101, 116, 114, 105, 99] : List UInt8))), (by first | rfl | (simp; done) | (simp [*]; done)), H', ⟨by first | omega | exact Nat.le_refl _⟩, by repeat (first | exact Drawn0.refl _ | apply Drawn0.step)⟩
              · rw [if_neg c8] at H
                have c8b0 : (a0.toList == ([109, 101, 116, 114, 105, 99] : List UInt8)) = false := beq_eq_false_iff_ne.mpr c8
                have c8b1 : (a0.toList != ([109, 101, 116, 114, 105, 99] : List UInt8)) = true := bne_iff_ne.mpr c8
                by_cases c9 : a0.toList = ([103, 114, 111, 117, 112] : List UInt8)
                · rw [if_pos c9] at H
                  have c9b0 : (a0.toList == ([103, 114, 111, 117, 112] : List UInt8)) = true := beq_iff_eq.mpr c9
                  have c9b1 : (a0.toList != ([103, 114, 111, 117, 112] : List UInt8)) = false := bne_eq_false_iff_eq.mpr c9
                  clear c9
                  have H' := Aside0.mk H
                  clear H
                  go_wp2
                  go_meet
                  case rel => exact ⟨_, ((a0.toList == ([103, 114, 111, 117, 112] : List UInt8))), (by first | rfl | (simp; done) | (simp [*]; done)), H', ⟨by first | omega | exact Nat.le_refl _⟩, by repeat (first | exact Drawn0.refl _ | apply Drawn0.step)⟩
                · rw [if_neg c9] at H
                  have c9b0 : (a0.toList == ([103, 114, 111, 117, 112] : List UInt8)) = false := beq_eq_false_iff_ne.mpr c9
                  have c9b1 : (a0.toList != ([103, 114, 111, 117, 112] : List UInt8)) = true := bne_iff_ne.mpr c9
                  by_cases c10 : a0.toList = ([101, 118, 97, 108] : List UInt8)
                  · rw [if_pos c10] at H
                    have c10b0 : (a0.toList == ([101, 118, 97, 108] : List UInt8)) = true := beq_iff_eq.mpr c10
                    have c10b1 : (a0.toList != ([101, 118, 97, 108] : List UInt8)) = false := bne_eq_false_iff_eq.mpr c10
                    clear c10
                    have H' := Aside0.mk H
                    clear H
                    go_wp2
                    go_meet
                    case rel => exact ⟨_, ((a0.toList == ([101, 118, 97, 108] : List UInt8))), (by first | rfl | (simp; done) | (simp [*]; done)), H', ⟨by first | omega | exact Nat.le_refl _⟩, by repeat (first | exact Drawn0.refl _ | apply Drawn0.step)⟩
                  · rw [if_neg c10] at H
                    have c10b0 : (a0.toList == ([101, 118, 97, 108] : List UInt8)) = false := beq_eq_false_iff_ne.mpr c10
                    have c10b1 : (a0.toList != ([101, 118, 97, 108] : List UInt8)) = true := bne_iff_ne.mpr c10
                    by_cases c11 : a0.toList = ([112, 104, 97, 115, 101] : List UInt8)
                    · rw [if_pos c11] at H
                      have c11b0 : (a0.toList == ([112, 104, 97, 115, 101] : List UInt8)) = true := beq_iff_eq.mpr c11
                      have c11b1 : (a0.toList != ([112, 104, 97, 115, 101] : List UInt8)) = false := bne_eq_false_iff_eq.mpr c11
                      clear c11
                      have H' := Aside0.mk H
                      clear H
                      go_wp2
                      go_meet
                      case rel => exact ⟨_, ((a0.toList == ([112, 104, 97, 115, 101] : List UInt8))), (by first | rfl | (simp; done) | (simp [*]; done)), H', ⟨by first | omega | exact Nat.le_refl _⟩, by repeat (first | exact Drawn0.refl _ | apply Drawn0.step)⟩
                    · rw [if_neg c11] at H
                      have c11b0 : (a0.toList == ([112, 104, 97, 115, 101] : List UInt8)) = false := beq_eq_false_iff_ne.mpr c11
                      have c11b1 : (a0.toList != ([112, 104, 97, 115, 101] : List UInt8)) = true := bne_iff_ne.mpr c11
                      by_cases c12 : a0.toList = ([114, 101, 115, 116] : List UInt8)
                      · rw [if_pos c12] at H
                        have c12b0 : (a0.toList == ([114, 101, 115, 116] : List UInt8)) = true := beq_iff_eq.mpr c12
                        have c12b1 : (a0.toList != ([114, 101, 115, 116] : List UInt8)) = false := bne_eq_false_iff_eq.mpr c12
                        clear c12
                        have H' := Aside0.mk H
                        clear H
                        go_wp2
                        go_meet
                        case rel => exact ⟨_, ((a0.toList == ([114, 101, 115, 116] : List UInt8))), (by first | rfl | (simp; done) | (simp [*]; done)), H', ⟨by first | omega | exact Nat.le_refl _⟩, by repeat (first | exact Drawn0.refl _ | apply Drawn0.step)⟩
                      · rw [if_neg c12] at H
                        have c12b0 : (a0.toList == ([114, 101, 115, 116] : List UInt8)) = false := beq_eq_false_iff_ne.mpr c12
                        have c12b1 : (a0.toList != ([114, 101, 115, 116] : List UInt8)) = true := bne_iff_ne.mpr c12
                        by_cases c13 : a0.toList = ([102, 114, 101, 101, 122, 101] : List UInt8)
                        · rw [if_pos c13] at H
                          have c13b0 : (a0.toList == ([102, 114, 101, 101, 122, 101] : List UInt8)) = true := beq_iff_eq.mpr c13
                          have c13b1 : (a0.toList != ([102, 114, 101, 101, 122, 101] : List UInt8)) = false := bne_eq_false_iff_eq.mpr c13
                          clear c13
                          have H' := Aside0.mk H
                          clear H
                          go_wp2
                          go_meet
                          case rel => exact ⟨_, ((a0.toList == ([102, 114, 101, 101, 122, 101] : List UInt8))), (by first | rfl | (simp; done) | (simp [*]; done)), H', ⟨by first | omega | exact Nat.le_refl _⟩, by repeat (first | exact Drawn0.refl _ | apply Drawn0.step)⟩
                        · rw [if_neg c13] at H
                          have c13b0 : (a0.toList == ([102, 114, 101, 101, 122, 101] : List UInt8)) = false := beq_eq_false_iff_ne.mpr c13
                          have c13b1 : (a0.toList != ([102, 114, 101, 101, 122, 101] : List UInt8)) = true := bne_iff_ne.mpr c13
                          have H' := Aside0.mk H
                          clear H
                          go_wp2
                          go_meet
                          case rel => exact ⟨_, ((a0.toList == ([115, 101, 116] : List UInt8))), (by first | rfl | (simp; done) | (simp [*]; done)), H', ⟨by first | omega | exact Nat.le_refl _⟩, by repeat (first | exact Drawn0.refl _ | apply Drawn0.step)⟩
  case rest =>
    clear HC2
    try clear c1
    try clear p2
    try clear c3
    try clear c3b0
    try clear c3b1
    try clear c4
    try clear c4b0
    try clear c4b1
    try clear c5
    try clear c5b0
    try clear c5b1
    try clear c6
    try clear c6b0
    try clear c6b1
    try clear c7
    try clear c7b0
    try clear c7b1
    try clear c8
    try clear c8b0
    try clear c8b1
    try clear c9
    try clear c9b0
    try clear c9b1
    try clear c10
    try clear c10b0
    try clear c10b1
    try clear c11
    try clear c11b0
    try clear c11b1
    try clear c12
    try clear c12b0
    try clear c12b1
    try clear c13
    try clear c13b0
    try clear c13b1
    obtain ⟨kq, x4_1, rfl, HA, HJ1, ⟨mc1, rfl⟩⟩ := hcut
    cases kq with
    | zero => exact absurd HA.out (by simp [names_Keyword.j0])
    | succ kj1 =>
      have H := HA.out
      clear HA
      simp only [names_Keyword.j0] at H
      by_cases c14 : x4_1 = true
      · subst c14
        have H1 : (some true) = some r := by rw [if_pos rfl] at H; exact H
        clear H
        have H := H1
        clear H1
        obtain rfl := Option.some.inj H
        go_wp2
        go_ret
        exact ⟨by first | rfl | (simp; done) | (simp [*]; done), by repeat (first | exact Drawn0.refl _ | apply Drawn0.step)⟩
      · replace c14 := Bool.eq_false_iff.mpr c14
        subst c14
        have H1 : (if a0.toList = ([108, 114] : List UInt8) then (names_Keyword.j1 kj1 a0 (a0.toList == ([108, 114] : List UInt8))) else (if a0.toList = ([109, 111, 109] : List UInt8) then (names_Keyword.j1 kj1 a0 (a0.toList == ([109, 111, 109] : List UInt8))) else (if a0.toList = ([119, 100] : List UInt8) then (names_Keyword.j1 kj1 a0 (a0.toList == ([119, 100] : List UInt8))) else (if a0.toList = ([99, 111, 110, 115, 116] : List UInt8) then (names_Keyword.j1 kj1 a0 (a0.toList == ([99, 111, 110, 115, 116] : List UInt8))) else (if a0.toList = ([108, 105, 110, 101] : List UInt8) then (names_Keyword.j1 kj1 a0 (a0.toList == ([108, 105, 110, 101] : List UInt8))) else (if a0.toList = ([112, 111, 108, 121] : List UInt8) then (names_Keyword.j1 kj1 a0 (a0.toList == ([112, 111, 108, 121] : List UInt8))) else (if a0.toList = ([101, 120, 112] : List UInt8) then (names_Keyword.j1 kj1 a0 (a0.toList == ([101, 120, 112] : List UInt8))) else (if a0.toList = ([119, 97, 118, 101] : List UInt8) then (names_Keyword.j1 kj1 a0 (a0.toList == ([119, 97, 118, 101] : List UInt8))) else (if a0.toList = ([99, 121, 99, 108, 101] : List UInt8) then (names_Keyword.j1 kj1 a0 (a0.toList == ([99, 121, 99, 108, 101] : List UInt8))) else (if a0.toList = ([114, 101, 115, 116, 97, 114, 116] : List UInt8) then (names_Keyword.j1 kj1 a0 (a0.toList == ([114, 101, 115, 116, 97, 114, 116] : List UInt8))) else (if a0.toList = ([119, 97, 114, 109] : List UInt8) then (names_Keyword.j1 kj1 a0 (a0.toList == ([119, 97, 114, 109] : List UInt8))) else (names_Keyword.j1 kj1 a0 (a0.toList == ([116, 104, 101, 110] : List UInt8)))))))))))))) = some r := by rw [if_neg (show ¬ (false = true) by decide)] at H; exact H
        clear H
        have H := H1
        clear H1
        have HC15 := Aside0.mk H
        clear H
        go_upto_if 17 with (fail)
        go_cut [17] (fun v17 wc => ∃ (kq : Nat) (x17_14 : Bool), v17 = .bool x17_14 ∧ Aside0 (names_Keyword.j1 kq a0 x17_14 = some r) ∧ Aside0 (kq ≤ kj1) ∧ Drawn0 w wc)
        case first =>
          have H := HC15.out
          clear HC15
          by_cases c16 : a0.toList = ([108, 114] : List UInt8)
          · rw [if_pos c16] at H
            have c16b0 : (a0.toList == ([108, 114] : List UInt8)) = true := beq_iff_eq.mpr c16
            have c16b1 : (a0.toList != ([108, 114] : List UInt8)) = false := bne_eq_false_iff_eq.mpr c16
            clear c16
            (first | rw [c16b0] | rw [c16b1] | (simp only [i64_w, i32_w]; rw [c16b0]) | skip)
            have H' := Aside0.mk H
            clear H
            go_wp2
            go_meet
            case rel => exact ⟨_, ((a0.toList == ([108, 114] : List UInt8))), (by first | rfl | (simp; done) | (simp [*]; done)), H', ⟨by have := HJ1.out; first | omega | exact Nat.le_refl _⟩, by repeat (first | exact Drawn0.refl _ | apply Drawn0.step)⟩
          · rw [if_neg c16] at H
            have c16b0 : (a0.toList == ([108, 114] : List UInt8)) = false := beq_eq_false_iff_ne.mpr c16
            have c16b1 : (a0.toList != ([108, 114] : List UInt8)) = true := bne_iff_ne.mpr c16
            (first | rw [c16b0] | rw [c16b1] | (simp only [i64_w, i32_w]; rw [c16b0]) | skip)
            by_cases c17 : a0.toList = ([109, 111, 109] : List UInt8)
            · rw [if_pos c17] at H
              have c17b0 : (a0.toList == ([109, 111, 109] : List UInt8)) = true := beq_iff_eq.mpr c17
              have c17b1 : (a0.toList != ([109, 111, 109] : List UInt8)) = false := bne_eq_false_iff_eq.mpr c17
              clear c17
              have H' := Aside0.mk H
              clear H
              go_wp2
              go_meet
              case rel => exact ⟨_, ((a0.toList == ([109, 111, 109] : List UInt8))), (by first | rfl | (simp; done) | (simp [*]; done)), H', ⟨by have := HJ1.out; first | omega | exact Nat.le_refl _⟩, by repeat (first | exact Drawn0.refl _ | apply Drawn0.step)⟩
            · rw [if_neg c17] at H
              have c17b0 : (a0.toList == ([109, 111, 109] : List UInt8)) = false := beq_eq_false_iff_ne.mpr c17
              have c17b1 : (a0.toList != ([109, 111, 109] : List UInt8)) = true := bne_iff_ne.mpr c17
              by_cases c18 : a0.toList = ([119, 100] : List UInt8)
              · rw [if_pos c18] at H
                have c18b0 : (a0.toList == ([119, 100] : List UInt8)) = true := beq_iff_eq.mpr c18
                have c18b1 : (a0.toList != ([119, 100] : List UInt8)) = false := bne_eq_false_iff_eq.mpr c18
                clear c18
                have H' := Aside0.mk H
                clear H
                go_wp2
                go_meet
                case rel => exact ⟨_, ((a0.toList == ([119, 100] : List UInt8))), (by first | rfl | (simp; done) | (simp [*]; done)), H', ⟨by have := HJ1.out; first | omega | exact Nat.le_refl _⟩, by repeat (first | exact Drawn0.refl _ | apply Drawn0.step)⟩
              · rw [if_neg c18] at H
                have c18b0 : (a0.toList == ([119, 100] : List UInt8)) = false := beq_eq_false_iff_ne.mpr c18
                have c18b1 : (a0.toList != ([119, 100] : List UInt8)) = true := bne_iff_ne.mpr c18
                by_cases c19 : a0.toList = ([99, 111, 110, 115, 116] : List UInt8)
                · rw [if_pos c19] at H
                  have c19b0 : (a0.toList == ([99, 111, 110, 115, 116] : List UInt8)) = true := beq_iff_eq.mpr c19
                  have c19b1 : (a0.toList != ([99, 111, 110, 115, 116] : List UInt8)) = false := bne_eq_false_iff_eq.mpr c19
                  clear c19
                  have H' := Aside0.mk H
                  clear H
                  go_wp2
                  go_meet
                  case rel => exact ⟨_, ((a0.toList == ([99, 111, 110, 115, 116] : List UInt8))), (by first | rfl | (simp; done) | (simp [*]; done)), H', ⟨by have := HJ1.out; first | omega | exact Nat.le_refl _⟩, by repeat (first | exact Drawn0.refl _ | apply Drawn0.step)⟩
                · rw [if_neg c19] at H
                  have c19b0 : (a0.toList == ([99, 111, 110, 115, 116] : List UInt8)) = false := beq_eq_false_iff_ne.mpr c19
                  have c19b1 : (a0.toList != ([99, 111, 110, 115, 116] : List UInt8)) = true := bne_iff_ne.mpr c19
                  by_cases c20 : a0.toList = ([108, 105, 110, 101] : List UInt8)
                  · rw [if_pos c20] at H
                    have c20b0 : (a0.toList == ([108, 105, 110, 101] : List UInt8)) = true := beq_iff_eq.mpr c20
                    have c20b1 : (a0.toList != ([108, 105, 110, 101] : List UInt8)) = false := bne_eq_false_iff_eq.mpr c20
                    clear c20
                    have H' := Aside0.mk H
                    clear H
                    go_wp2
                    go_meet
                    case rel => exact ⟨_, ((a0.toList == ([108, 105, 110, 101] : List UInt8))), (by first | rfl | (simp; done) | (simp [*]; done)), H', ⟨by have := HJ1.out; first | omega | exact Nat.le_refl _⟩, by repeat (first | exact Drawn0.refl _ | apply Drawn0.step)⟩
                  · rw [if_neg c20] at H
                    have c20b0 : (a0.toList == ([108, 105, 110, 101] : List UInt8)) = false := beq_eq_false_iff_ne.mpr c20
                    have c20b1 : (a0.toList != ([108, 105, 110, 101] : List UInt8)) = true := bne_iff_ne.mpr c20
                    by_cases c21 : a0.toList = ([112, 111, 108, 121] : List UInt8)
                    · rw [if_pos c21] at H
                      have c21b0 : (a0.toList == ([112, 111, 108, 121] : List UInt8)) = true := beq_iff_eq.mpr c21
                      have c21b1 : (a0.toList != ([112, 111, 108, 121] : List UInt8)) = false := bne_eq_false_iff_eq.mpr c21
                      clear c21
                      have H' := Aside0.mk H
                      clear H
                      go_wp2
                      go_meet
                      case rel => exact ⟨_, ((a0.toList == ([112, 111, 108, 121] : List UInt8))), (by first | rfl | (simp; done) | (simp [*]; done)), H', ⟨by have := HJ1.out; first | omega | exact Nat.le_refl _⟩, by repeat (first | exact Drawn0.refl _ | apply Drawn0.step)⟩
                    · rw [if_neg c21] at H
                      have c21b0 : (a0.toList == ([112, 111, 108, 121] : List UInt8)) = false := beq_eq_false_iff_ne.mpr c21
                      have c21b1 : (a0.toList != ([112, 111, 108, 121] : List UInt8)) = true := bne_iff_ne.mpr c21
                      by_cases c22 : a0.toList = ([101, 120, 112] : List UInt8)
                      · rw [if_pos c22] at H
                        have c22b0 : (a0.toList == ([101, 120, 112] : List UInt8)) = true := beq_iff_eq.mpr c22
                        have c22b1 : (a0.toList != ([101, 120, 112] : List UInt8)) = false := bne_eq_false_iff_eq.mpr c22
                        clear c22
                        have H' := Aside0.mk H
                        clear H
                        go_wp2
                        go_meet
                        case rel => exact ⟨_, ((a0.toList == ([101, 120, 112] : List UInt8))), (by first | rfl | (simp; done) | (simp [*]; done)), H', ⟨by have := HJ1.out; first | omega | exact Nat.le_refl _⟩, by repeat (first | exact Drawn0.refl _ | apply Drawn0.step)⟩
                      · rw [if_neg c22] at H
                        have c22b0 : (a0.toList == ([101, 120, 112] : List UInt8)) = false := beq_eq_false_iff_ne.mpr c22
                        have c22b1 : (a0.toList != ([101, 120, 112] : List UInt8)) = true := bne_iff_ne.mpr c22
                        by_cases c23 : a0.toList = ([119, 97, 118, 101] : List UInt8)
                        · rw [if_pos c23] at H
                          have c23b0 : (a0.toList == ([119, 97, 118, 101] : List UInt8)) = true := beq_iff_eq.mpr c23
                          have c23b1 : (a0.toList != ([119, 97, 118, 101] : List UInt8)) = false := bne_eq_false_iff_eq.mpr c23
                          clear c23
                          have H' := Aside0.mk H
                          clear H
                          go_wp2
                          go_meet
                          case rel => exact ⟨_, ((a0.toList == ([119, 97, 118, 101] : List UInt8))), (by first | rfl | (simp; done) | (simp [*]; done)), H', ⟨by have := HJ1.out; first | omega | exact Nat.le_refl _⟩, by repeat (first | exact Drawn0.refl _ | apply Drawn0.step)⟩
                        · rw [if_neg c23] at H
                          have c23b0 : (a0.toList == ([119, 97, 118, 101] : List UInt8)) = false := beq_eq_false_iff_ne.mpr c23
                          have c23b1 : (a0.toList != ([119, 97, 118, 101] : List UInt8)) = true := bne_iff_ne.mpr c23
                          by_cases c24 : a0.toList = ([99, 121, 99, 108, 101] : List UInt8)
                          · rw [if_pos c24] at H
                            have c24b0 : (a0.toList == ([99, 121, 99, 108, 101] : List UInt8)) = true := beq_iff_eq.mpr c24
                            have c24b1 : (a0.toList != ([99, 121, 99, 108, 101] : List UInt8)) = false := bne_eq_false_iff_eq.mpr c24
                            clear c24
                            have H' := Aside0.mk H
                            clear H
                            go_wp2
                            go_meet
                            case rel => exact ⟨_, ((a0.toList == ([99, 121, 99, 108, 101] : List UInt8))), (by first | rfl | (simp; done) | (simp [*]; done)), H', ⟨by have := HJ1.out; first | omega | exact Nat.le_refl _⟩, by repeat (first | exact Drawn0.refl _ | apply Drawn0.step)⟩
                          · rw [if_neg c24] at H
                            have c24b0 : (a0.toList == ([99, 121, 99, 108, 101] : List UInt8)) = false := beq_eq_false_iff_ne.mpr c24
                            have c24b1 : (a0.toList != ([99, 121, 99, 108, 101] : List UInt8)) = true := bne_iff_ne.mpr c24
                            by_cases c25 : a0.toList = ([114, 101, 115, 116, 97, 114, 116] : List UInt8)
                            · rw [if_pos c25] at H
                              have c25b0 : (a0.toList == ([114, 101, 115, 116, 97, 114, 116] : List UInt8)) = true := beq_iff_eq.mpr c25
                              have c25b1 : (a0.toList != ([114, 101, 115, 116, 97, 114, 116] : List UInt8)) = false := bne_eq_false_iff_eq.mpr c25
                              clear c25
                              have H' := Aside0.mk H
                              clear H
                              go_wp2
                              go_meet
                              case rel => exact ⟨_, ((a0.toList == ([114, 101, 115, 116, 97, 114, 116] : List UInt8))), (by first | rfl | (simp; done) | (simp [*]; done)), H', ⟨by have := HJ1.out; first | omega | exact Nat.le_refl _⟩, by repeat (first | exact Drawn0.refl _ | apply Drawn0.step)⟩
                            · rw [if_neg c25] at H
                              have c25b0 : (a0.toList == ([114, 101, 115, 116, 97, 114, 116] : List UInt8)) = false := beq_eq_false_iff_ne.mpr c25
                              have c25b1 : (a0.toList != ([114, 101, 115, 116, 97, 114, 116] : List UInt8)) = true := bne_iff_ne.mpr c25
                              by_cases c26 : a0.toList = ([119, 97, 114, 109] : List UInt8)
                              · rw [if_pos c26] at H
                                have c26b0 : (a0.toList == ([119, 97, 114, 109] : List UInt8)) = true := beq_iff_eq.mpr c26
                                have c26b1 : (a0.toList != ([119, 97, 114, 109] : List UInt8)) = false := bne_eq_false_iff_eq.mpr c26
                                clear c26
                                have H' := Aside0.mk H
                                clear H
                                go_wp2
                                go_meet
                                case rel => exact ⟨_, ((a0.toList == ([119, 97, 114, 109] : List UInt8))), (by first | rfl | (simp; done) | (simp [*]; done)), H', ⟨by have := HJ1.out; first | omega | exact Nat.le_refl _⟩, by repeat (first | exact Drawn0.refl _ | apply Drawn0.step)⟩
                              · rw [if_neg c26] at H
                                have c26b0 : (a0.toList == ([119, 97, 114, 109] : List UInt8)) = false := beq_eq_false_iff_ne.mpr c26
                                have c26b1 : (a0.toList != ([119, 97, 114, 109] : List UInt8)) = true := bne_iff_ne.mpr c26
                                have H' := Aside0.mk H
                                clear H
                                go_wp2
                                go_meet
                                case rel => exact ⟨_, ((a0.toList == ([116, 104, 101, 110] : List UInt8))), (by first | rfl | (simp; done) | (simp [*]; done)), H', ⟨by have := HJ1.out; first | omega | exact Nat.le_refl _⟩, by repeat (first | exact Drawn0.refl _ | apply Drawn0.step)⟩
        case rest =>
          clear HC15
          try clear c1
          try clear c2
          try clear p2
          try clear c3
          try clear c3b0
          try clear c3b1
          try clear c4
          try clear c4b0
          try clear c4b1
          try clear c5
          try clear c5b0
          try clear c5b1
          try clear c6
          try clear c6b0
          try clear c6b1
          try clear c7
          try clear c7b0
          try clear c7b1
          try clear c8
          try clear c8b0
          try clear c8b1
          try clear c9
          try clear c9b0
          try clear c9b1
          try clear c10
          try clear c10b0
          try clear c10b1
          try clear c11
          try clear c11b0
          try clear c11b1
          try clear c12
          try clear c12b0
          try clear c12b1
          try clear c13
          try clear c13b0
          try clear c13b1
          try clear c14
          try clear c16
          try clear c16b0
          try clear c16b1
          try clear c17
          try clear c17b0
          try clear c17b1
          try clear c18
          try clear c18b0
          try clear c18b1
          try clear c19
          try clear c19b0
          try clear c19b1
          try clear c20
          try clear c20b0
          try clear c20b1
          try clear c21
          try clear c21b0
          try clear c21b1
          try clear c22
          try clear c22b0
          try clear c22b1
          try clear c23
          try clear c23b0
          try clear c23b1
          try clear c24
          try clear c24b0
          try clear c24b1
          try clear c25
          try clear c25b0
          try clear c25b1
          try clear c26
          try clear c26b0
          try clear c26b1
          try clear p2
          obtain ⟨kq, x17_14, rfl, HA, HJ14, ⟨mc14, rfl⟩⟩ := hcut
          cases kq with
          | zero => exact absurd HA.out (by simp [names_Keyword.j1])
          | succ kj14 =>
            have H := HA.out
            clear HA
            simp only [names_Keyword.j1] at H
            by_cases c27 : x17_14 = true
            · subst c27
              have H1 : (some true) = some r := by rw [if_pos rfl] at H; exact H
              clear H
              have H := H1
              clear H1
              obtain rfl := Option.some.inj H
              go_wp2
              go_ret
              exact ⟨by first | rfl | (simp; done) | (simp [*]; done), by repeat (first | exact Drawn0.refl _ | apply Drawn0.step)⟩
            · replace c27 := Bool.eq_false_iff.mpr c27
              subst c27
              have H1 : (if a0.toList = ([115, 116, 111, 112] : List UInt8) then (some true) else (if a0.toList = ([112, 108, 97, 116, 101, 97, 117] : List UInt8) then (some true) else (if a0.toList = ([107, 101, 101, 112] : List UInt8) then (some true) else (if a0.toList = ([101, 109, 97] : List UInt8) then (some true) else (if a0.toList = ([115, 119, 97] : List UInt8) then (some true) else (if a0.toList = ([109, 105, 110] : List UInt8) then (some true) else (if a0.toList = ([109, 97, 120] : List UInt8) then (some true) else (if a0.toList = ([97, 98, 115] : List UInt8) then (some true) else (if a0.toList = ([114, 101, 108] : List UInt8) then (some true) else (some false)))))))))) = some r := by rw [if_neg (show ¬ (false = true) by decide)] at H; exact H
              clear H
              have H := H1
              clear H1
              by_cases c28 : a0.toList = ([115, 116, 111, 112] : List UInt8)
              · rw [if_pos c28] at H
                have c28b0 : (a0.toList == ([115, 116, 111, 112] : List UInt8)) = true := beq_iff_eq.mpr c28
                have c28b1 : (a0.toList != ([115, 116, 111, 112] : List UInt8)) = false := bne_eq_false_iff_eq.mpr c28
                clear c28
                obtain rfl := Option.some.inj H
                go_wp2
                go_ret
                exact ⟨by first | rfl | (simp; done) | (simp [*]; done), by repeat (first | exact Drawn0.refl _ | apply Drawn0.step)⟩
              · rw [if_neg c28] at H
                have c28b0 : (a0.toList == ([115, 116, 111, 112] : List UInt8)) = false := beq_eq_false_iff_ne.mpr c28
                have c28b1 : (a0.toList != ([115, 116, 111, 112] : List UInt8)) = true := bne_iff_ne.mpr c28
                by_cases c29 : a0.toList = ([112, 108, 97, 116, 101, 97, 117] : List UInt8)
                · rw [if_pos c29] at H
                  have c29b0 : (a0.toList == ([112, 108, 97, 116, 101, 97, 117] : List UInt8)) = true := beq_iff_eq.mpr c29
                  have c29b1 : (a0.toList != ([112, 108, 97, 116, 101, 97, 117] : List UInt8)) = false := bne_eq_false_iff_eq.mpr c29
                  clear c29
                  obtain rfl := Option.some.inj H
                  go_wp2
                  go_ret
                  exact ⟨by first | rfl | (simp; done) | (simp [*]; done), by repeat (first | exact Drawn0.refl _ | apply Drawn0.step)⟩
                · rw [if_neg c29] at H
                  have c29b0 : (a0.toList == ([112, 108, 97, 116, 101, 97, 117] : List UInt8)) = false := beq_eq_false_iff_ne.mpr c29
                  have c29b1 : (a0.toList != ([112, 108, 97, 116, 101, 97, 117] : List UInt8)) = true := bne_iff_ne.mpr c29
                  by_cases c30 : a0.toList = ([107, 101, 101, 112] : List UInt8)
                  · rw [if_pos c30] at H
                    have c30b0 : (a0.toList == ([107, 101, 101, 112] : List UInt8)) = true := beq_iff_eq.mpr c30
                    have c30b1 : (a0.toList != ([107, 101, 101, 112] : List UInt8)) = false := bne_eq_false_iff_eq.mpr c30
                    clear c30
                    obtain rfl := Option.some.inj H
                    go_wp2
                    go_ret
                    exact ⟨by first | rfl | (simp; done) | (simp [*]; done), by repeat (first | exact Drawn0.refl _ | apply Drawn0.step)⟩
                  · rw [if_neg c30] at H
                    have c30b0 : (a0.toList == ([107, 101, 101, 112] : List UInt8)) = false := beq_eq_false_iff_ne.mpr c30
                    have c30b1 : (a0.toList != ([107, 101, 101, 112] : List UInt8)) = true := bne_iff_ne.mpr c30
                    by_cases c31 : a0.toList = ([101, 109, 97] : List UInt8)
                    · rw [if_pos c31] at H
                      have c31b0 : (a0.toList == ([101, 109, 97] : List UInt8)) = true := beq_iff_eq.mpr c31
                      have c31b1 : (a0.toList != ([101, 109, 97] : List UInt8)) = false := bne_eq_false_iff_eq.mpr c31
                      clear c31
                      obtain rfl := Option.some.inj H
                      go_wp2
                      go_ret
                      exact ⟨by first | rfl | (simp; done) | (simp [*]; done), by repeat (first | exact Drawn0.refl _ | apply Drawn0.step)⟩
                    · rw [if_neg c31] at H
                      have c31b0 : (a0.toList == ([101, 109, 97] : List UInt8)) = false := beq_eq_false_iff_ne.mpr c31
                      have c31b1 : (a0.toList != ([101, 109, 97] : List UInt8)) = true := bne_iff_ne.mpr c31
                      by_cases c32 : a0.toList = ([115, 119, 97] : List UInt8)
                      · rw [if_pos c32] at H
                        have c32b0 : (a0.toList == ([115, 119, 97] : List UInt8)) = true := beq_iff_eq.mpr c32
                        have c32b1 : (a0.toList != ([115, 119, 97] : List UInt8)) = false := bne_eq_false_iff_eq.mpr c32
                        clear c32
                        obtain rfl := Option.some.inj H
                        go_wp2
                        go_ret
                        exact ⟨by first | rfl | (simp; done) | (simp [*]; done), by repeat (first | exact Drawn0.refl _ | apply Drawn0.step)⟩
                      · rw [if_neg c32] at H
                        have c32b0 : (a0.toList == ([115, 119, 97] : List UInt8)) = false := beq_eq_false_iff_ne.mpr c32
                        have c32b1 : (a0.toList != ([115, 119, 97] : List UInt8)) = true := bne_iff_ne.mpr c32
                        by_cases c33 : a0.toList = ([109, 105, 110] : List UInt8)
                        · rw [if_pos c33] at H
                          have c33b0 : (a0.toList == ([109, 105, 110] : List UInt8)) = true := beq_iff_eq.mpr c33
                          have c33b1 : (a0.toList != ([109, 105, 110] : List UInt8)) = false := bne_eq_false_iff_eq.mpr c33
                          clear c33
                          obtain rfl := Option.some.inj H
                          go_wp2
                          go_ret
                          exact ⟨by first | rfl | (simp; done) | (simp [*]; done), by repeat (first | exact Drawn0.refl _ | apply Drawn0.step)⟩
                        · rw [if_neg c33] at H
                          have c33b0 : (a0.toList == ([109, 105, 110] : List UInt8)) = false := beq_eq_false_iff_ne.mpr c33
                          have c33b1 : (a0.toList != ([109, 105, 110] : List UInt8)) = true := bne_iff_ne.mpr c33
                          by_cases c34 : a0.toList = ([109, 97, 120] : List UInt8)
                          · rw [if_pos c34] at H
                            have c34b0 : (a0.toList == ([109, 97, 120] : List UInt8)) = true := beq_iff_eq.mpr c34
                            have c34b1 : (a0.toList != ([109, 97, 120] : List UInt8)) = false := bne_eq_false_iff_eq.mpr c34
                            clear c34
                            obtain rfl := Option.some.inj H
                            go_wp2
                            go_ret
                            exact ⟨by first | rfl | (simp; done) | (simp [*]; done), by repeat (first | exact Drawn0.refl _ | apply Drawn0.step)⟩
                          · rw [if_neg c34] at H
                            have c34b0 : (a0.toList == ([109, 97, 120] : List UInt8)) = false := beq_eq_false_iff_ne.mpr c34
                            have c34b1 : (a0.toList != ([109, 97, 120] : List UInt8)) = true := bne_iff_ne.mpr c34
                            by_cases c35 : a0.toList = ([97, 98, 115] : List UInt8)
                            · rw [if_pos c35] at H
                              have c35b0 : (a0.toList == ([97, 98, 115] : List UInt8)) = true := beq_iff_eq.mpr c35
                              have c35b1 : (a0.toList != ([97, 98, 115] : List UInt8)) = false := bne_eq_false_iff_eq.mpr c35
                              clear c35
                              obtain rfl := Option.some.inj H
                              go_wp2
                              go_ret
                              exact ⟨by first | rfl | (simp; done) | (simp [*]; done), by repeat (first | exact Drawn0.refl _ | apply Drawn0.step)⟩
                            · rw [if_neg c35] at H
                              have c35b0 : (a0.toList == ([97, 98, 115] : List UInt8)) = false := beq_eq_false_iff_ne.mpr c35
                              have c35b1 : (a0.toList != ([97, 98, 115] : List UInt8)) = true := bne_iff_ne.mpr c35
                              by_cases c36 : a0.toList = ([114, 101, 108] : List UInt8)
                              · rw [if_pos c36] at H
                                have c36b0 : (a0.toList == ([114, 101, 108] : List UInt8)) = true := beq_iff_eq.mpr c36
                                have c36b1 : (a0.toList != ([114, 101, 108] : List UInt8)) = false := bne_eq_false_iff_eq.mpr c36
                                clear c36
                                obtain rfl := Option.some.inj H
                                go_wp2
                                go_ret
                                exact ⟨by first | rfl | (simp; done) | (simp [*]; done), by repeat (first | exact Drawn0.refl _ | apply Drawn0.step)⟩
                              · rw [if_neg c36] at H
                                have c36b0 : (a0.toList == ([114, 101, 108] : List UInt8)) = false := beq_eq_false_iff_ne.mpr c36
                                have c36b1 : (a0.toList != ([114, 101, 108] : List UInt8)) = true := bne_iff_ne.mpr c36
                                obtain rfl := Option.some.inj H
                                go_wp2
                                go_ret
                                exact ⟨by first | rfl | (simp; done) | (simp [*]; done), by repeat (first | exact Drawn0.refl _ | apply Drawn0.step)⟩

/-! ### names_Is: function 60 -/
def names_Is.letB (c : Int) (first : Bool) : Bool := (decide (97 ≤ c) && decide (c ≤ 122)) || (!first && ((decide (48 ≤ c) && decide (c ≤ 57)) || c == 95))
def names_Is.allB : List Int → Bool → Bool
  | [], _ => true
  | x :: t, b => names_Is.letB x b && names_Is.allB t false
def names_Is.f (k : Nat) (a0 : ByteArray) : Option (Bool) := if names_Is.allB (numsOf a0) true = true then (if a0.toList = ([] : List UInt8) then some false else if (a0.size : Int) ≤ 16 then (names_Keyword.f k a0).bind fun t => some (!t) else some false) else some false
theorem names_Is.mono : ∀ a0 k, LeO (names_Is.f k a0) (names_Is.f (k + 1) a0) := by
  intro a0 k
  unfold names_Is.f
  exact LeO.ite (LeO.ite (LeO.refl _) (LeO.ite (LeO.bind (names_Keyword.mono a0 k) (fun _ => LeO.refl _)) (LeO.refl _))) (LeO.refl _)
theorem names_Is.letv (c : Int) (b : Bool) : names_letter.f 2 c b = some (names_Is.letB c b) := by
  have e : ∀ d : Bool, names_letter.j0 2 c b d = if d = true then (some true) else (if b = true then (some false) else (if c ≥ 48 then (if c ≤ 57 then (some true) else (some (c == 95))) else (some (c == 95)))) := fun d => rfl
  unfold names_letter.f names_Is.letB
  rw [e, e]
  by_cases c1 : c ≥ 97
  · rw [if_pos c1]
    by_cases c2 : c ≤ 122
    · rw [if_pos (decide_eq_true c2), decide_eq_true (show 97 ≤ c from c1), decide_eq_true c2]
      rfl
    · rw [if_neg (by simpa using c2), decide_eq_false c2, Bool.and_false, Bool.false_or]
      cases b
      · rw [if_neg (by decide), if_pos (by omega), if_neg (by omega), decide_eq_false (show ¬ c ≤ 57 by omega), Bool.and_false, Bool.false_or]
        rfl
      · rfl
  · rw [if_neg c1, if_neg (by decide), decide_eq_false (show ¬ 97 ≤ c from c1), Bool.false_and, Bool.false_or]
    cases b
    · rw [if_neg (by decide)]
      by_cases c3 : c ≥ 48
      · rw [if_pos c3]
        by_cases c4 : c ≤ 57
        · rw [if_pos c4, decide_eq_true (show 48 ≤ c from c3), decide_eq_true c4]
          rfl
        · rw [if_neg c4, decide_eq_false c4, Bool.and_false, Bool.false_or]
          rfl
      · rw [if_neg c3, decide_eq_false (show ¬ 48 ≤ c from c3), Bool.false_and, Bool.false_or]
        rfl
    · rfl
theorem names_Is.at_ {s : ByteArray} {p : Nat} (h : p < s.size) : (numsOf s).drop p = (((s[p]'h).toNat : Nat) : Int) :: (numsOf s).drop (p + 1) := by
  have hl : p < (numsOf s).length := by rw [numsOf_length]; exact h
  rw [List.drop_eq_getElem_cons hl]
  congr 1
  simp only [numsOf, List.getElem_map]
  rfl
theorem names_Is.end_ {s : ByteArray} {p : Nat} (h : ¬ p < s.size) : (numsOf s).drop p = [] := List.drop_eq_nil_of_le (by rw [numsOf_length]; omega)
set_option maxHeartbeats 8000000 in
set_option maxRecDepth 100000 in
theorem names_Is.calls (k : Nat) (a0 : ByteArray) (r : Bool) (w : World) (h : names_Is.f k a0 = some r) :
    Calls Try.prog 60 #[.string a0] w fun e w' => e = .returned (.bool r) ∧ Below w.heap.size w w' := by
  have H := Aside0.mk h
  clear h
  go_enter Try.func60, Try.ntmps60
  go_wp2_with (fail)
  go_loopw [] (fun w' => ∃ pos, w'.heap[w.heap.size]? = some (.stringIter a0 pos) ∧ Below w.heap.size w w' ∧ Aside0 (names_Is.allB (numsOf a0) true = names_Is.allB ((numsOf a0).drop pos) (decide (pos = 0)))) (fun w' => a0.size - w'.iterPos w.heap.size)
  case atStart => exact ⟨0, World.iter_heap w a0 0, below_alloc (Below.refl _ _) _, ⟨rfl⟩⟩
  case round =>
    obtain ⟨pos, hit, hB, hall⟩ := hrel
    have HB := Aside0.mk hB
    have HI := Aside0.mk hit
    clear hB
    by_cases hp : pos < a0.size
    · have hdr := Aside0.mk (names_Is.at_ hp)
      have hnx := fun ty => Lib.run_next_any_at (P := Try.prog) wr w.heap.size a0 pos ty hit hp
      have hB1 := fun q => Aside0.mk (Lib.below_iterAt HB.out (Nat.le_refl _) a0 q)
      have hit1 := fun q => Aside0.mk (Lib.iterAt_heap wr w.heap.size a0 pos q hit)
      have hz := show ((pos : Int) == 0) = decide (pos = 0) from by rw [Bool.eq_iff_iff]; simp
      have hgo : ∀ (c : Int) (d : Nat), Utf8.decode a0 pos = (c.toNat, d) → 0 ≤ c → (c = (((a0[pos]'hp).toNat : Nat) : Int) ∧ d = 1) ∨ (128 ≤ c ∧ 128 ≤ (a0[pos]'hp).toNat ∧ 1 ≤ d) := by
        intro c d e h0
        by_cases ha : (a0[pos]'hp).toNat < 128
        · rw [decode_ascii a0 pos hp ha] at e
          injection e with e1 e2
          exact .inl ⟨by omega, e2.symm⟩
        · have := decode_high a0 pos hp (by omega)
          rw [e] at this
          exact .inr ⟨by have := this.1; simp only at this; omega, by omega, this.2⟩
      obtain ⟨c, d, hd, h0⟩ : ∃ (c : Int) (d : Nat), Utf8.decode a0 pos = (c.toNat, d) ∧ 0 ≤ c := ⟨((Utf8.decode a0 pos).1 : Int), (Utf8.decode a0 pos).2, rfl, Int.natCast_nonneg _⟩
      have hcase := hgo c d hd h0
      clear hgo
      have hct : ((c.toNat : Nat) : Int) = c := Int.toNat_of_nonneg h0
      rw [hd] at hnx
      simp only [hct] at hnx
      have hcase := Aside0.mk hcase
      clear hd h0 hct hit
      cases hv : names_Is.letB c (decide (pos = 0)) with
      | false =>
        have hres : r = false := by
          have h := H.out
          unfold names_Is.f at h
          rw [hall.out, hdr.out] at h
          have : names_Is.allB ((((a0[pos]'hp).toNat : Nat) : Int) :: (numsOf a0).drop (pos + 1)) (decide (pos = 0)) = false := by
            show (names_Is.letB _ _ && _) = false
            rcases hcase.out with ⟨e, _⟩ | ⟨_, e, _⟩
            · rw [← e, hv, Bool.false_and]
            · have : names_Is.letB (((a0[pos]'hp).toNat : Nat) : Int) (decide (pos = 0)) = false := by
                unfold names_Is.letB
                rw [decide_eq_false (show ¬ (((a0[pos]'hp).toNat : Nat) : Int) ≤ 122 by omega), decide_eq_false (show ¬ (((a0[pos]'hp).toNat : Nat) : Int) ≤ 57 by omega), show ((((a0[pos]'hp).toNat : Nat) : Int) == 95) = false from by rw [beq_eq_false_iff_ne]; omega]
                simp
              rw [this, Bool.false_and]
          rw [this, if_neg (by decide)] at h
          exact (Option.some.inj h).symm
        subst hres
        go_wp2_with (go_at_call 89; refine (names_letter.calls 2 _ _ _ _ (names_Is.letv _ _)).mono ?_; rintro e w' ⟨rfl, ⟨nd, rfl⟩⟩; simp only [hz, hv])
        go_ret
        exact ⟨rfl, pw_below_drewN (hB1 _).out _⟩
      | true =>
        go_wp2_with (go_at_call 89; refine (names_letter.calls 2 _ _ _ _ (names_Is.letv _ _)).mono ?_; rintro e w' ⟨rfl, ⟨nd, rfl⟩⟩; simp only [hz, hv])
        go_roundw
        case rel =>
          refine ⟨pos + d, (hit1 _).out, pw_below_drewN (hB1 _).out _, ⟨?_⟩⟩
          rcases hcase.out with ⟨e, rfl⟩ | ⟨e, _⟩
          · rw [hall.out, hdr.out]
            show (names_Is.letB _ _ && _) = _
            rw [← e, hv, Bool.true_and]
            rfl
          · exfalso
            revert hv
            unfold names_Is.letB
            rw [decide_eq_false (show ¬ c ≤ 122 by omega), decide_eq_false (show ¬ c ≤ 57 by omega), show (c == 95) = false from by rw [beq_eq_false_iff_ne]; omega]
            simp
        case measure =>
          have h1 : ((wr.iterAt w.heap.size a0 (pos + d)).drewN nd).iterPos w.heap.size = pos + d := by
            have := (hit1 (pos + d)).out
            simp [World.iterPos, World.drewN, this]
          have h2 : wr.iterPos w.heap.size = pos := by simp [World.iterPos, HI.out]
          have h3 : 1 ≤ d := by rcases hcase.out with ⟨_, e⟩ | ⟨_, _, e⟩ <;> omega
          first | (rw [h1, h2]; omega) | omega
    · have hdr := names_Is.end_ hp
      have hnx := fun ty => Lib.run_next_end_at (P := Try.prog) wr w.heap.size a0 pos ty hit hp
      have h := H.out
      unfold names_Is.f at h
      rw [hall.out, hdr, if_pos (show names_Is.allB [] _ = true from rfl)] at h
      clear hdr hall
      by_cases c1 : a0.toList = ([] : List UInt8)
      · rw [if_pos c1] at h
        have hres := Option.some.inj h
        subst hres
        have c1b : (a0.toList == ([] : List UInt8)) = true := beq_iff_eq.mpr c1
        have c1c : (a0.toList != ([] : List UInt8)) = false := bne_eq_false_iff_eq.mpr c1
        go_wp2_with (fail)
        go_ret
        exact ⟨rfl, HB.out⟩
      · rw [if_neg c1] at h
        have c1b : (a0.toList == ([] : List UInt8)) = false := beq_eq_false_iff_ne.mpr c1
        have c1c : (a0.toList != ([] : List UInt8)) = true := bne_iff_ne.mpr c1
        by_cases c2 : (a0.size : Int) ≤ 16
        · rw [if_pos c2] at h
          have c2b : decide ((a0.size : Int) ≤ 16) = true := decide_eq_true c2
          have c2c : decide (a0.size ≤ 16) = true := decide_eq_true (by omega)
          obtain ⟨t, ht, h⟩ := Option.bind_eq_some_iff.mp h
          have hres := Option.some.inj h
          subst hres
          have HT := Aside0.mk ht
          clear ht h
          go_wp2_with (go_at_call 90; refine (names_Keyword.calls k _ t _ HT.out).mono ?_; rintro e w' ⟨rfl, ⟨nd, rfl⟩⟩)
          go_ret
          exact ⟨rfl, pw_below_drewN HB.out _⟩
        · rw [if_neg c2] at h
          have hres := Option.some.inj h
          subst hres
          have c2b : decide ((a0.size : Int) ≤ 16) = false := decide_eq_false c2
          have c2c : decide (a0.size ≤ 16) = false := decide_eq_false (by omega)
          go_wp2_with (fail)
          go_ret
          exact ⟨rfl, HB.out⟩

end Go.Proofs.Ytnmmhfpekeeedaa.PC
