/- Go functions of this seat as plain Lean functions, each with a proof that its call comes to just what that function says, wherever that function says anything: written by a program of this session. -/
import Derived.Test.YtmakhhgfidgfdaaPHx0
import Derived.Test.YtmakhhgfidgfdaaPHx3
import Derived.Test.YtmakhhgfidgfdaaPHx7
import Derived.Test.YtmakhhgfidgfdaaPHx10
import Derived.Test.YtmakhhgfidgfdaaPHx11
namespace Go.Proofs.Ytmakhhgfidgfdaa.PH
open Go.RowKit Go.Proofs.YtmakhhgfidgfdaaW.PrintWords Go.Proofs.YtmakhhgfidgfdaaW.PrintLast Go.Proofs.YtmakhhgfidgfdaaW.PrintMore
attribute [local go_sem] max2_int min2_int max_two min_two max_three min_three max_four min_four   -- for this text's walks alone
set_option linter.unusedVariables false
set_option linter.unusedSimpArgs false

attribute [local go_sem] isSome_setCell idx63_1
attribute [local go_sem high] eqA73
/-! ### regimenlaw31_PlatFalls: function 12 -/
mutual
def regimenlaw31_PlatFalls.j0 : Nat → List Int → Bool → Bool → ByteArray → Bool → Int → Int → Int → Int → Int → Option (Bool)
  | 0, _, _, _, _, _, _, _, _, _, _ => none
  | k + 1, x0, x33, x375000, x375001, x375002, x375003, x375004, x375005, x375006, x375007 => if x33 = true then ((regimenlaw31_awake.f k).bind fun t375 => (some t375)) else ((plat_New.f).bind fun bt376 => (if ((bt376.1 || (!(bt376.2.1 == 0) || (!(bt376.2.2.1 == 0)))) || (!(bt376.2.2.2.1 == 0) || (!(bt376.2.2.2.2 == 4294967296)))) = true then (none) else (regimenlaw31_PlatFalls.l0 k x0 0 x375000 x375001 x375002 x375003 x375004 x375005 x375006 x375007 bt376.1 bt376.2.1 bt376.2.2.1 bt376.2.2.2.1 bt376.2.2.2.2)))
def regimenlaw31_PlatFalls.l0 : Nat → List Int → Int → Bool → ByteArray → Bool → Int → Int → Int → Int → Int → Bool → Int → Int → Int → Int → Option (Bool)
  | 0, _, _, _, _, _, _, _, _, _, _, _, _, _, _, _ => none
  | k + 1, x0, x6, x375000, x375001, x375002, x375003, x375004, x375005, x375006, x375007, x382000, x382001, x382002, x382003, x382004 => if x6 < (x0.length : Int) then (if 0 ≤ x6 then ((plat_Take.f k x382000 x382001 x382002 x382003 x382004 (rd x0 x6) x375000 x375001 x375002 x375003 x375004 x375005 x375006 x375007).bind fun bt384 => ((regimenref31_Take.f k true 0 1099511627776 0 x382004 0 false (⟨#[]⟩ : ByteArray) false x375003 1 0 0 0).bind fun bt391 => ((plat_Check.f k bt384.1 bt384.2.1 bt384.2.2.1 bt384.2.2.2.1 bt384.2.2.2.2.1).bind fun t398 => (if t398 = true then (if bt384.2.2.2.2.1 > x382004 then (none) else (if bt384.2.2.2.2.2 = true then (if bt384.2.2.2.2.1 = bt391.2.2.2.2.1 then (regimenlaw31_PlatFalls.l0 k x0 (wrap64 (x6 + 1)) x375000 x375001 x375002 x375003 x375004 x375005 x375006 x375007 bt384.1 bt384.2.1 bt384.2.2.1 bt384.2.2.2.1 bt384.2.2.2.2.1) else (none)) else (if bt384.2.2.2.2.1 = x382004 then (regimenlaw31_PlatFalls.l0 k x0 (wrap64 (x6 + 1)) x375000 x375001 x375002 x375003 x375004 x375005 x375006 x375007 bt384.1 bt384.2.1 bt384.2.2.1 bt384.2.2.2.1 bt384.2.2.2.2.1) else (none)))) else (none))))) else (none)) else ((regimenlaw31_awake.f k).bind fun t382 => (some t382))
end
def regimenlaw31_PlatFalls.f (k : Nat) (l0 : List Int) (a1_0 : Bool) (a1_1 : ByteArray) (a1_2 : Bool) (a1_3 : Int) (a1_4 : Int) (a1_5 : Int) (a1_6 : Int) (a1_7 : Int) : Option (Bool) := if (l0.length : Int) > 60 then (regimenlaw31_PlatFalls.j0 k l0 true a1_0 a1_1 a1_2 a1_3 a1_4 a1_5 a1_6 a1_7) else (if a1_3 < 0 then (regimenlaw31_PlatFalls.j0 k l0 true a1_0 a1_1 a1_2 a1_3 a1_4 a1_5 a1_6 a1_7) else (if a1_3 > 4294967296 then (regimenlaw31_PlatFalls.j0 k l0 true a1_0 a1_1 a1_2 a1_3 a1_4 a1_5 a1_6 a1_7) else (if a1_5 < 0 then (regimenlaw31_PlatFalls.j0 k l0 true a1_0 a1_1 a1_2 a1_3 a1_4 a1_5 a1_6 a1_7) else (regimenlaw31_PlatFalls.j0 k l0 (decide (a1_5 > 1099511627776)) a1_0 a1_1 a1_2 a1_3 a1_4 a1_5 a1_6 a1_7))))
theorem regimenlaw31_PlatFalls.mono_l : ∀ k, (∀ y0 y1 y2 y3 y4 y5 y6 y7 y8 y9, LeO (regimenlaw31_PlatFalls.j0 k y0 y1 y2 y3 y4 y5 y6 y7 y8 y9) (regimenlaw31_PlatFalls.j0 (k + 1) y0 y1 y2 y3 y4 y5 y6 y7 y8 y9)) ∧ (∀ y0 y1 y2 y3 y4 y5 y6 y7 y8 y9 y10 y11 y12 y13 y14, LeO (regimenlaw31_PlatFalls.l0 k y0 y1 y2 y3 y4 y5 y6 y7 y8 y9 y10 y11 y12 y13 y14) (regimenlaw31_PlatFalls.l0 (k + 1) y0 y1 y2 y3 y4 y5 y6 y7 y8 y9 y10 y11 y12 y13 y14))
  | 0 => ⟨fun _ _ _ _ _ _ _ _ _ _ r h => by simp [regimenlaw31_PlatFalls.j0] at h, fun _ _ _ _ _ _ _ _ _ _ _ _ _ _ _ r h => by simp [regimenlaw31_PlatFalls.l0] at h⟩
  | k + 1 => by
    obtain ⟨ih0, ih1⟩ := regimenlaw31_PlatFalls.mono_l k
    refine ⟨?_, ?_⟩
    · intro y0 y1 y2 y3 y4 y5 y6 y7 y8 y9
      unfold regimenlaw31_PlatFalls.j0
      repeat' first
      | (with_reducible exact ih0 _ _ _ _ _ _ _ _ _ _)
      | (with_reducible exact ih1 _ _ _ _ _ _ _ _ _ _ _ _ _ _ _)
      | (with_reducible exact plat_Check.mono _ _ _ _ _ _)
      | (with_reducible exact plat_Take.mono _ _ _ _ _ _ _ _ _ _ _ _ _ _ _)
      | (with_reducible exact regimenlaw31_awake.mono _)
      | (with_reducible exact regimenref31_Take.mono _ _ _ _ _ _ _ _ _ _ _ _ _ _ _)
      | (with_reducible exact LeO.refl _)
      | (with_reducible exact LeO.none _)
      | (with_reducible refine LeO.ite ?_ ?_)
      | (with_reducible refine LeO.bind ?_ (fun _ => ?_))
      | exact ih0 _ _ _ _ _ _ _ _ _ _
      | exact ih1 _ _ _ _ _ _ _ _ _ _ _ _ _ _ _
      | exact plat_Check.mono _ _ _ _ _ _
      | exact plat_Take.mono _ _ _ _ _ _ _ _ _ _ _ _ _ _ _
      | exact regimenlaw31_awake.mono _
      | exact regimenref31_Take.mono _ _ _ _ _ _ _ _ _ _ _ _ _ _ _
      | exact LeO.none _
      | refine LeO.ite ?_ ?_
      | refine LeO.bind ?_ (fun _ => ?_)
    · intro y0 y1 y2 y3 y4 y5 y6 y7 y8 y9 y10 y11 y12 y13 y14
      unfold regimenlaw31_PlatFalls.l0
      repeat' first
      | (with_reducible exact ih0 _ _ _ _ _ _ _ _ _ _)
      | (with_reducible exact ih1 _ _ _ _ _ _ _ _ _ _ _ _ _ _ _)
      | (with_reducible exact plat_Check.mono _ _ _ _ _ _)
      | (with_reducible exact plat_Take.mono _ _ _ _ _ _ _ _ _ _ _ _ _ _ _)
      | (with_reducible exact regimenlaw31_awake.mono _)
      | (with_reducible exact regimenref31_Take.mono _ _ _ _ _ _ _ _ _ _ _ _ _ _ _)
      | (with_reducible exact LeO.refl _)
      | (with_reducible exact LeO.none _)
      | (with_reducible refine LeO.ite ?_ ?_)
      | (with_reducible refine LeO.bind ?_ (fun _ => ?_))
      | exact ih0 _ _ _ _ _ _ _ _ _ _
      | exact ih1 _ _ _ _ _ _ _ _ _ _ _ _ _ _ _
      | exact plat_Check.mono _ _ _ _ _ _
      | exact plat_Take.mono _ _ _ _ _ _ _ _ _ _ _ _ _ _ _
      | exact regimenlaw31_awake.mono _
      | exact regimenref31_Take.mono _ _ _ _ _ _ _ _ _ _ _ _ _ _ _
      | exact LeO.none _
      | refine LeO.ite ?_ ?_
      | refine LeO.bind ?_ (fun _ => ?_)
theorem regimenlaw31_PlatFalls.mono : ∀ a0 a1 a2 a3 a4 a5 a6 a7 a8 k, LeO (regimenlaw31_PlatFalls.f k a0 a1 a2 a3 a4 a5 a6 a7 a8) (regimenlaw31_PlatFalls.f (k + 1) a0 a1 a2 a3 a4 a5 a6 a7 a8) := by
  intro a0 a1 a2 a3 a4 a5 a6 a7 a8 k
  obtain ⟨ih0, ih1⟩ := regimenlaw31_PlatFalls.mono_l k
  unfold regimenlaw31_PlatFalls.f
  repeat' first
      | (with_reducible exact ih0 _ _ _ _ _ _ _ _ _ _)
      | (with_reducible exact ih1 _ _ _ _ _ _ _ _ _ _ _ _ _ _ _)
      | (with_reducible exact plat_Check.mono _ _ _ _ _ _)
      | (with_reducible exact plat_Take.mono _ _ _ _ _ _ _ _ _ _ _ _ _ _ _)
      | (with_reducible exact regimenlaw31_awake.mono _)
      | (with_reducible exact regimenref31_Take.mono _ _ _ _ _ _ _ _ _ _ _ _ _ _ _)
      | (with_reducible exact LeO.refl _)
      | (with_reducible exact LeO.none _)
      | (with_reducible refine LeO.ite ?_ ?_)
      | (with_reducible refine LeO.bind ?_ (fun _ => ?_))
      | exact ih0 _ _ _ _ _ _ _ _ _ _
      | exact ih1 _ _ _ _ _ _ _ _ _ _ _ _ _ _ _
      | exact plat_Check.mono _ _ _ _ _ _
      | exact plat_Take.mono _ _ _ _ _ _ _ _ _ _ _ _ _ _ _
      | exact regimenlaw31_awake.mono _
      | exact regimenref31_Take.mono _ _ _ _ _ _ _ _ _ _ _ _ _ _ _
      | exact LeO.none _
      | refine LeO.ite ?_ ?_
      | refine LeO.bind ?_ (fun _ => ?_)
def regimenlaw31_PlatFalls.T9 : Bool × List (List Nat × List Nat) := (true, [([], []), ([], []), ([], []), ([1, 2], [1, 2]), ([3], [3]), ([], []), ([0, 4, 5], [0, 4, 5]), ([6], [6]), ([7], [7]), ([7], [7]), ([], []), ([10, 8, 6, 0, 1, 2, 3, 4, 5, 6, 7, 8, 10], [8, 10]), ([9, 11, 0, 1, 2, 3, 4, 5, 6, 7, 8, 9, 10, 11], [9])])
def regimenlaw31_PlatFalls.B9 : List Nat := [0, 0, 0, 6, 14, 0, 63, 127, 255, 255, 0, 1535, 4095]
theorem regimenlaw31_PlatFalls.tab9 : rtab .any (opsOf Try.f12 9) = regimenlaw31_PlatFalls.T9 := by kernel_rfl
theorem regimenlaw31_PlatFalls.bits9 : waitsOk regimenlaw31_PlatFalls.T9.2 regimenlaw31_PlatFalls.B9 = true := by kernel_rfl
set_option maxHeartbeats 8000000 in
set_option maxRecDepth 100000 in
theorem regimenlaw31_PlatFalls.calls (k : Nat) (A0 : Option Addr) (c0 : Nat) (l0 : List Int) (a1_0 : Bool) (a1_1 : ByteArray) (a1_2 : Bool) (a1_3 : Int) (a1_4 : Int) (a1_5 : Int) (a1_6 : Int) (a1_7 : Int) (r : Bool) (w : World) (hr0 : Kd.C (Kd.int .i64) w A0 l0.length l0) (hc0 : l0.length ≤ c0) (h : regimenlaw31_PlatFalls.f k l0 a1_0 a1_1 a1_2 a1_3 a1_4 a1_5 a1_6 a1_7 = some r) :
    Calls Try.prog 12 #[.slice A0 l0.length c0, .agg #[.bool a1_0, .string a1_1, .bool a1_2, .int .i64 a1_3, .int .i64 a1_4, .int .i64 a1_5, .int .i64 a1_6, .int .i64 a1_7]] w fun e w' => e = .returned (.bool r) ∧ Below w.heap.size w w' := by
  have hu75 := Try.underlying75
  have hu73 := Try.underlying73
  have hu51 := Try.underlying51
  have HR0 := Aside0.mk hr0
  have HC0 := Aside0.mk hc0
  clear hr0 hc0
  have HB := Aside0.mk (Below.refl w.heap.size w)
  have H : (if (l0.length : Int) > 60 then (regimenlaw31_PlatFalls.j0 k l0 true a1_0 a1_1 a1_2 a1_3 a1_4 a1_5 a1_6 a1_7) else (if a1_3 < 0 then (regimenlaw31_PlatFalls.j0 k l0 true a1_0 a1_1 a1_2 a1_3 a1_4 a1_5 a1_6 a1_7) else (if a1_3 > 4294967296 then (regimenlaw31_PlatFalls.j0 k l0 true a1_0 a1_1 a1_2 a1_3 a1_4 a1_5 a1_6 a1_7) else (if a1_5 < 0 then (regimenlaw31_PlatFalls.j0 k l0 true a1_0 a1_1 a1_2 a1_3 a1_4 a1_5 a1_6 a1_7) else (regimenlaw31_PlatFalls.j0 k l0 (decide (a1_5 > 1099511627776)) a1_0 a1_1 a1_2 a1_3 a1_4 a1_5 a1_6 a1_7))))) = some r := h
  clear h
  have HC3 := Aside0.mk H
  clear H
  go_enter Try.func12, Try.ntmps12
  go_upto_region 1 with (first | ((with_reducible refine gate_dst (N := 3) rfl ?_); refine box_event ?hg (N := 3) ?hd (cs := #[.bool a1_0, .string a1_1, .bool a1_2, .int .i64 a1_3, .int .i64 a1_4, .int .i64 a1_5, .int .i64 a1_6, .int .i64 a1_7]) (t := 75) ?hr ?_; (case hd => rfl); (case hg => rfl); (case hr => first | (go_simp; done) | (go_simp; rfl)); intro gb374 hg w4 hbox hb; have n0_ := Aside0.mk (below_step (by repeat (first | (with_reducible first | exact HB.out | apply below_alloc | apply pw_below_drewN | apply below_drew1) | exact HB.out)) hb); have n1_ := Aside0.mk (hbox); have n2_ := Aside0.mk ((by rw [hg]; exact (below_size (by repeat (first | (with_reducible first | exact HB.out | apply below_alloc | apply pw_below_drewN | apply below_drew1) | exact HB.out))) : w.heap.size ≤ gb374)); have n3_ := Aside0.mk ((by rw [hg]; exact (below_size (by repeat (first | (with_reducible first | exact HB.out | apply below_alloc | apply pw_below_drewN | apply below_drew1) | exact HB.out))) : w.heap.size ≤ gb374)); clear HB; have HB := n0_; have BK374 := n1_; have GW374 := n2_; have GE374 := n3_; clear n0_ n1_ n2_ n3_; clear hb hbox hg))
  (try simp only [Act.put, List.setIfInBounds_toArray, List.set_cons_zero, List.set_cons_succ])
  go_cut [33] (fun v33 wc => ∃ (kq : Nat) (x33_2 : Bool), v33 = .bool x33_2 ∧ Aside0 (regimenlaw31_PlatFalls.j0 kq l0 x33_2 a1_0 a1_1 a1_2 a1_3 a1_4 a1_5 a1_6 a1_7 = some r) ∧ Aside0 (kq ≤ k) ∧ Aside0 (wc.heap[gb374]? = some (.cells #[.bool a1_0, .string a1_1, .bool a1_2, .int .i64 a1_3, .int .i64 a1_4, .int .i64 a1_5, .int .i64 a1_6, .int .i64 a1_7] 75 (0, 0))) ∧ Aside0 (Below w.heap.size w wc))
  case first =>
    have H := HC3.out
    clear HC3
    by_cases c5 : (l0.length : Int) > 60
    · rw [if_pos c5] at H
      have c5b0 : decide (60 < (l0.length : Int)) = true := decide_eq_true c5
      have c5b1 : decide (60 < l0.length) = true := decide_eq_true (by omega)
      clear c5
      (first | rw [c5b0] | rw [c5b1] | (simp only [i64_w, i32_w]; rw [c5b0]) | skip)
      have H' := Aside0.mk H
      clear H
      go_wp2
      go_meet
      case rel => exact ⟨_, (true), (by first | rfl | (simp; done) | (simp [*]; done)), H', ⟨by first | omega | exact Nat.le_refl _⟩, ⟨by (with_reducible repeat (first | refine blk_drewN ?_ _ | refine blk_drew ?_ | refine blk_alloc ?_ _)); exact BK374.out⟩, ⟨by repeat (first | (with_reducible first | exact HB.out | apply below_alloc | apply pw_below_drewN | apply below_drew1 | refine below_set ?_ GE374.out) | exact HB.out)⟩⟩
    · rw [if_neg c5] at H
      have c5b0 : decide (60 < (l0.length : Int)) = false := decide_eq_false c5
      have c5b1 : decide (60 < l0.length) = false := decide_eq_false (by omega)
      clear c5
      (first | rw [c5b0] | rw [c5b1] | (simp only [i64_w, i32_w]; rw [c5b0]) | skip)
      by_cases c6 : a1_3 < 0
      · rw [if_pos c6] at H
        have c6b0 : decide (a1_3 < 0) = true := decide_eq_true c6
        clear c6
        have H' := Aside0.mk H
        clear H
        have hcz7_0 : w4.cell? ⟨gb374, 0, none⟩ = some (.bool a1_0) := (blk_cell BK374.out 0).trans rfl
        have hcz7_1 : w4.cell? ⟨gb374, 1, none⟩ = some (.string a1_1) := (blk_cell BK374.out 1).trans rfl
        have hcz7_2 : w4.cell? ⟨gb374, 2, none⟩ = some (.bool a1_2) := (blk_cell BK374.out 2).trans rfl
        have hcz7_3 : w4.cell? ⟨gb374, 3, none⟩ = some (.int .i64 a1_3) := (blk_cell BK374.out 3).trans rfl
        have hcz7_4 : w4.cell? ⟨gb374, 4, none⟩ = some (.int .i64 a1_4) := (blk_cell BK374.out 4).trans rfl
        have hcz7_5 : w4.cell? ⟨gb374, 5, none⟩ = some (.int .i64 a1_5) := (blk_cell BK374.out 5).trans rfl
        have hcz7_6 : w4.cell? ⟨gb374, 6, none⟩ = some (.int .i64 a1_6) := (blk_cell BK374.out 6).trans rfl
        have hcz7_7 : w4.cell? ⟨gb374, 7, none⟩ = some (.int .i64 a1_7) := (blk_cell BK374.out 7).trans rfl
        have hfz7_0 := blk_frozen BK374.out 0
        have hfz7_1 := blk_frozen BK374.out 1
        have hfz7_2 := blk_frozen BK374.out 2
        have hfz7_3 := blk_frozen BK374.out 3
        have hfz7_4 := blk_frozen BK374.out 4
        have hfz7_5 := blk_frozen BK374.out 5
        have hfz7_6 := blk_frozen BK374.out 6
        have hfz7_7 := blk_frozen BK374.out 7
        go_wp2
        go_meet
        case rel => exact ⟨_, (true), (by first | rfl | (simp; done) | (simp [*]; done)), H', ⟨by first | omega | exact Nat.le_refl _⟩, ⟨by (with_reducible repeat (first | refine blk_drewN ?_ _ | refine blk_drew ?_ | refine blk_alloc ?_ _)); exact BK374.out⟩, ⟨by repeat (first | (with_reducible first | exact HB.out | apply below_alloc | apply pw_below_drewN | apply below_drew1 | refine below_set ?_ GE374.out) | exact HB.out)⟩⟩
      · rw [if_neg c6] at H
        have c6b0 : decide (a1_3 < 0) = false := decide_eq_false c6
        clear c6
        by_cases c8 : a1_3 > 4294967296
        · rw [if_pos c8] at H
          have c8b0 : decide (4294967296 < a1_3) = true := decide_eq_true c8
          clear c8
          have H' := Aside0.mk H
          clear H
          have hcz9_0 : w4.cell? ⟨gb374, 0, none⟩ = some (.bool a1_0) := (blk_cell BK374.out 0).trans rfl
          have hcz9_1 : w4.cell? ⟨gb374, 1, none⟩ = some (.string a1_1) := (blk_cell BK374.out 1).trans rfl
          have hcz9_2 : w4.cell? ⟨gb374, 2, none⟩ = some (.bool a1_2) := (blk_cell BK374.out 2).trans rfl
          have hcz9_3 : w4.cell? ⟨gb374, 3, none⟩ = some (.int .i64 a1_3) := (blk_cell BK374.out 3).trans rfl
          have hcz9_4 : w4.cell? ⟨gb374, 4, none⟩ = some (.int .i64 a1_4) := (blk_cell BK374.out 4).trans rfl
          have hcz9_5 : w4.cell? ⟨gb374, 5, none⟩ = some (.int .i64 a1_5) := (blk_cell BK374.out 5).trans rfl
          have hcz9_6 : w4.cell? ⟨gb374, 6, none⟩ = some (.int .i64 a1_6) := (blk_cell BK374.out 6).trans rfl
          have hcz9_7 : w4.cell? ⟨gb374, 7, none⟩ = some (.int .i64 a1_7) := (blk_cell BK374.out 7).trans rfl
          have hfz9_0 := blk_frozen BK374.out 0
          have hfz9_1 := blk_frozen BK374.out 1
          have hfz9_2 := blk_frozen BK374.out 2
          have hfz9_3 := blk_frozen BK374.out 3
          have hfz9_4 := blk_frozen BK374.out 4
          have hfz9_5 := blk_frozen BK374.out 5
          have hfz9_6 := blk_frozen BK374.out 6
          have hfz9_7 := blk_frozen BK374.out 7
          go_wp2
          go_meet
          case rel => exact ⟨_, (true), (by first | rfl | (simp; done) | (simp [*]; done)), H', ⟨by first | omega | exact Nat.le_refl _⟩, ⟨by (with_reducible repeat (first | refine blk_drewN ?_ _ | refine blk_drew ?_ | refine blk_alloc ?_ _)); exact BK374.out⟩, ⟨by repeat (first | (with_reducible first | exact HB.out | apply below_alloc | apply pw_below_drewN | apply below_drew1 | refine below_set ?_ GE374.out) | exact HB.out)⟩⟩
        · rw [if_neg c8] at H
          have c8b0 : decide (4294967296 < a1_3) = false := decide_eq_false c8
          clear c8
          by_cases c10 : a1_5 < 0
          · rw [if_pos c10] at H
            have c10b0 : decide (a1_5 < 0) = true := decide_eq_true c10
            clear c10
            have H' := Aside0.mk H
            clear H
            have hcz11_0 : w4.cell? ⟨gb374, 0, none⟩ = some (.bool a1_0) := (blk_cell BK374.out 0).trans rfl
            have hcz11_1 : w4.cell? ⟨gb374, 1, none⟩ = some (.string a1_1) := (blk_cell BK374.out 1).trans rfl
            have hcz11_2 : w4.cell? ⟨gb374, 2, none⟩ = some (.bool a1_2) := (blk_cell BK374.out 2).trans rfl
            have hcz11_3 : w4.cell? ⟨gb374, 3, none⟩ = some (.int .i64 a1_3) := (blk_cell BK374.out 3).trans rfl
            have hcz11_4 : w4.cell? ⟨gb374, 4, none⟩ = some (.int .i64 a1_4) := (blk_cell BK374.out 4).trans rfl
            have hcz11_5 : w4.cell? ⟨gb374, 5, none⟩ = some (.int .i64 a1_5) := (blk_cell BK374.out 5).trans rfl
            have hcz11_6 : w4.cell? ⟨gb374, 6, none⟩ = some (.int .i64 a1_6) := (blk_cell BK374.out 6).trans rfl
            have hcz11_7 : w4.cell? ⟨gb374, 7, none⟩ = some (.int .i64 a1_7) := (blk_cell BK374.out 7).trans rfl
            have hfz11_0 := blk_frozen BK374.out 0
            have hfz11_1 := blk_frozen BK374.out 1
            have hfz11_2 := blk_frozen BK374.out 2
            have hfz11_3 := blk_frozen BK374.out 3
            have hfz11_4 := blk_frozen BK374.out 4
            have hfz11_5 := blk_frozen BK374.out 5
            have hfz11_6 := blk_frozen BK374.out 6
            have hfz11_7 := blk_frozen BK374.out 7
            go_wp2
            go_meet
            case rel => exact ⟨_, (true), (by first | rfl | (simp; done) | (simp [*]; done)), H', ⟨by first | omega | exact Nat.le_refl _⟩, ⟨by (with_reducible repeat (first | refine blk_drewN ?_ _ | refine blk_drew ?_ | refine blk_alloc ?_ _)); exact BK374.out⟩, ⟨by repeat (first | (with_reducible first | exact HB.out | apply below_alloc | apply pw_below_drewN | apply below_drew1 | refine below_set ?_ GE374.out) | exact HB.out)⟩⟩
          · rw [if_neg c10] at H
            have c10b0 : decide (a1_5 < 0) = false := decide_eq_false c10
            clear c10
            have H' := Aside0.mk H
            clear H
            have hcz12_0 : w4.cell? ⟨gb374, 0, none⟩ = some (.bool a1_0) := (blk_cell BK374.out 0).trans rfl
            have hcz12_1 : w4.cell? ⟨gb374, 1, none⟩ = some (.string a1_1) := (blk_cell BK374.out 1).trans rfl
            have hcz12_2 : w4.cell? ⟨gb374, 2, none⟩ = some (.bool a1_2) := (blk_cell BK374.out 2).trans rfl
            have hcz12_3 : w4.cell? ⟨gb374, 3, none⟩ = some (.int .i64 a1_3) := (blk_cell BK374.out 3).trans rfl
            have hcz12_4 : w4.cell? ⟨gb374, 4, none⟩ = some (.int .i64 a1_4) := (blk_cell BK374.out 4).trans rfl
            have hcz12_5 : w4.cell? ⟨gb374, 5, none⟩ = some (.int .i64 a1_5) := (blk_cell BK374.out 5).trans rfl
            have hcz12_6 : w4.cell? ⟨gb374, 6, none⟩ = some (.int .i64 a1_6) := (blk_cell BK374.out 6).trans rfl
            have hcz12_7 : w4.cell? ⟨gb374, 7, none⟩ = some (.int .i64 a1_7) := (blk_cell BK374.out 7).trans rfl
            have hfz12_0 := blk_frozen BK374.out 0
            have hfz12_1 := blk_frozen BK374.out 1
            have hfz12_2 := blk_frozen BK374.out 2
            have hfz12_3 := blk_frozen BK374.out 3
            have hfz12_4 := blk_frozen BK374.out 4
            have hfz12_5 := blk_frozen BK374.out 5
            have hfz12_6 := blk_frozen BK374.out 6
            have hfz12_7 := blk_frozen BK374.out 7
            go_wp2
            go_meet
            case rel => exact ⟨_, (decide (a1_5 > 1099511627776)), (by first | rfl | (simp; done) | (simp [*]; done)), H', ⟨by first | omega | exact Nat.le_refl _⟩, ⟨by (with_reducible repeat (first | refine blk_drewN ?_ _ | refine blk_drew ?_ | refine blk_alloc ?_ _)); exact BK374.out⟩, ⟨by repeat (first | (with_reducible first | exact HB.out | apply below_alloc | apply pw_below_drewN | apply below_drew1 | refine below_set ?_ GE374.out) | exact HB.out)⟩⟩
  case rest =>
    clear HC3
    try clear c1
    try clear p2
    try clear c5
    try clear c5b0
    try clear c5b1
    try clear c6
    try clear c6b0
    try clear c8
    try clear c8b0
    try clear c10
    try clear c10b0
    try clear c12
    try clear hcz11_0
    try clear hcz11_1
    try clear hcz11_2
    try clear hcz11_3
    try clear hcz11_4
    try clear hcz11_5
    try clear hcz11_6
    try clear hcz11_7
    try clear hcz12_0
    try clear hcz12_1
    try clear hcz12_2
    try clear hcz12_3
    try clear hcz12_4
    try clear hcz12_5
    try clear hcz12_6
    try clear hcz12_7
    try clear hcz7_0
    try clear hcz7_1
    try clear hcz7_2
    try clear hcz7_3
    try clear hcz7_4
    try clear hcz7_5
    try clear hcz7_6
    try clear hcz7_7
    try clear hcz9_0
    try clear hcz9_1
    try clear hcz9_2
    try clear hcz9_3
    try clear hcz9_4
    try clear hcz9_5
    try clear hcz9_6
    try clear hcz9_7
    try clear hfz11_0
    try clear hfz11_1
    try clear hfz11_2
    try clear hfz11_3
    try clear hfz11_4
    try clear hfz11_5
    try clear hfz11_6
    try clear hfz11_7
    try clear hfz12_0
    try clear hfz12_1
    try clear hfz12_2
    try clear hfz12_3
    try clear hfz12_4
    try clear hfz12_5
    try clear hfz12_6
    try clear hfz12_7
    try clear hfz7_0
    try clear hfz7_1
    try clear hfz7_2
    try clear hfz7_3
    try clear hfz7_4
    try clear hfz7_5
    try clear hfz7_6
    try clear hfz7_7
    try clear hfz9_0
    try clear hfz9_1
    try clear hfz9_2
    try clear hfz9_3
    try clear hfz9_4
    try clear hfz9_5
    try clear hfz9_6
    try clear hfz9_7
    obtain ⟨kq, x33_2, rfl, HA, HJ2, BK374, HB⟩ := hcut
    cases kq with
    | zero => exact absurd HA.out (by simp [regimenlaw31_PlatFalls.j0])
    | succ kj2 =>
      have H := HA.out
      clear HA
      simp only [regimenlaw31_PlatFalls.j0] at H
      by_cases c13 : x33_2 = true
      · subst c13
        have H1 : ((regimenlaw31_awake.f kj2).bind fun t375 => (some t375)) = some r := by rw [if_pos rfl] at H; exact H
        clear H
        have H := H1
        clear H1
        replace H := Option.bind_eq_some_iff.mp H
        obtain ⟨t375, A140, H⟩ := H
        replace H : (some t375) = some r := H
        have A14 := Aside0.mk A140
        clear A140
        obtain rfl := Option.some.inj H
        go_wp2_with (first | ((with_reducible refine gate_callee (f := 50) rfl ?_); refine goesL_ (some 34) rfl rfl Try.func50 (by kernel_rfl) rfl #[] rfl (by (try simp only [List.map_toArray, List.map_cons, List.map_nil]); first | done | rfl | (simp only [List.length_drop, List.length_take]; rfl)) ?_; (with_reducible refine (regimenlaw31_awake.calls kj2  t375 _ A14.out).mono ?_); rintro e w15 ⟨rfl, hb⟩; refine ⟨_, rfl, ?_⟩; have n0_ := Aside0.mk (blk_below (g := gb374) (o := .cells #[.bool a1_0, .string a1_1, .bool a1_2, .int .i64 a1_3, .int .i64 a1_4, .int .i64 a1_5, .int .i64 a1_6, .int .i64 a1_7] 75 (0, 0)) (by (with_reducible repeat (first | refine blk_drewN ?_ _ | refine blk_drew ?_ | refine blk_alloc ?_ _)); exact BK374.out) hb); have n1_ := Aside0.mk (below_step (by repeat (first | (with_reducible first | exact HB.out | apply below_alloc | apply pw_below_drewN | apply below_drew1 | refine below_set ?_ GE374.out) | exact HB.out)) hb); clear BK374; clear HB; have BK374 := n0_; have HB := n1_; clear n0_ n1_; (try clear hb); (try clear hb2); (try clear hk); (try clear hi)))
        go_ret
        exact ⟨by first | rfl | (simp [errW_none, errW_some] <;> rfl) | (simp [*, errW_none, errW_some] <;> rfl), by repeat (first | (with_reducible first | exact HB.out | apply below_alloc | apply pw_below_drewN | apply below_drew1 | refine below_set ?_ GE374.out) | exact HB.out)⟩
      · replace c13 := Bool.eq_false_iff.mpr c13
        subst c13
        have H1 : ((plat_New.f).bind fun bt376 => (if ((bt376.1 || (!(bt376.2.1 == 0) || (!(bt376.2.2.1 == 0)))) || (!(bt376.2.2.2.1 == 0) || (!(bt376.2.2.2.2 == 4294967296)))) = true then (none) else (regimenlaw31_PlatFalls.l0 kj2 l0 0 a1_0 a1_1 a1_2 a1_3 a1_4 a1_5 a1_6 a1_7 bt376.1 bt376.2.1 bt376.2.2.1 bt376.2.2.2.1 bt376.2.2.2.2))) = some r := by rw [if_neg (show ¬ (false = true) by decide)] at H; exact H
        clear H
        have H := H1
        clear H1
        replace H := Option.bind_eq_some_iff.mp H
        obtain ⟨⟨t376, t377, t378, t379, t380⟩, A160, H⟩ := H
        replace H : (if ((t376 || (!(t377 == 0) || (!(t378 == 0)))) || (!(t379 == 0) || (!(t380 == 4294967296)))) = true then (none) else (regimenlaw31_PlatFalls.l0 kj2 l0 0 a1_0 a1_1 a1_2 a1_3 a1_4 a1_5 a1_6 a1_7 t376 t377 t378 t379 t380)) = some r := H
        have A16 := Aside0.mk A160
        clear A160
        by_cases c17 : ((t376 || (!(t377 == 0) || (!(t378 == 0)))) || (!(t379 == 0) || (!(t380 == 4294967296)))) = true
        · rw [if_pos c17] at H
          exact absurd H (by simp)
        · rw [if_neg c17] at H
          have c17b0 : ((t376 || (!(t377 == 0) || (!(t378 == 0)))) || (!(t379 == 0) || (!(t380 == 4294967296)))) = false := by simpa using c17
          clear c17
          have H' := Aside0.mk H
          clear H
          go_wp2_with (first | ((with_reducible refine gate_callee (f := 51) rfl ?_); refine goesL_ (some 35) rfl rfl Try.func51 (by kernel_rfl) rfl #[] rfl (by (try simp only [List.map_toArray, List.map_cons, List.map_nil]); first | done | rfl | (simp only [List.length_drop, List.length_take]; rfl)) ?_; (with_reducible refine (plat_New.calls  t376 t377 t378 t379 t380 _ A16.out).mono ?_); rintro e w18 ⟨rfl, hb⟩; refine ⟨_, rfl, ?_⟩; have n0_ := Aside0.mk (blk_below (g := gb374) (o := .cells #[.bool a1_0, .string a1_1, .bool a1_2, .int .i64 a1_3, .int .i64 a1_4, .int .i64 a1_5, .int .i64 a1_6, .int .i64 a1_7] 75 (0, 0)) (by (with_reducible repeat (first | refine blk_drewN ?_ _ | refine blk_drew ?_ | refine blk_alloc ?_ _)); exact BK374.out) hb); have n1_ := Aside0.mk (below_step (by repeat (first | (with_reducible first | exact HB.out | apply below_alloc | apply pw_below_drewN | apply below_drew1 | refine below_set ?_ GE374.out) | exact HB.out)) hb); clear BK374; clear HB; have BK374 := n0_; have HB := n1_; clear n0_ n1_; (try clear hb); (try clear hb2); (try clear hk); (try clear hi)) | ((with_reducible refine gate_dst (N := 5) rfl ?_); refine box_event ?hg (N := 5) ?hd (cs := #[.bool false, .int .i64 0, .int .i64 0, .int .i64 0, .int .i64 0]) (t := 73) ?hr ?_; (case hd => rfl); (case hg => rfl); (case hr => first | (go_simp; done) | (go_simp; rfl)); intro gb381 hg w19 hbox hb; have n0_ := Aside0.mk (blk_below (g := gb374) (o := .cells #[.bool a1_0, .string a1_1, .bool a1_2, .int .i64 a1_3, .int .i64 a1_4, .int .i64 a1_5, .int .i64 a1_6, .int .i64 a1_7] 75 (0, 0)) (by (with_reducible repeat (first | refine blk_drewN ?_ _ | refine blk_drew ?_ | refine blk_alloc ?_ _)); exact BK374.out) hb); have n1_ := Aside0.mk (below_step (by repeat (first | (with_reducible first | exact HB.out | apply below_alloc | apply pw_below_drewN | apply below_drew1 | refine below_set ?_ GE374.out) | exact HB.out)) hb); have n2_ := Aside0.mk (hbox); have n3_ := Aside0.mk ((by rw [hg]; exact (below_size (by repeat (first | (with_reducible first | exact HB.out | apply below_alloc | apply pw_below_drewN | apply below_drew1 | refine below_set ?_ GE374.out) | exact HB.out))) : w.heap.size ≤ gb381)); have n4_ := Aside0.mk ((by rw [hg]; exact (below_size (by repeat (first | (with_reducible first | exact HB.out | apply below_alloc | apply pw_below_drewN | apply below_drew1 | refine below_set ?_ GE374.out) | exact HB.out))) : w.heap.size ≤ gb381)); have n5_ := Aside0.mk ((by rw [hg]; exact Nat.ne_of_lt (blk_lt (g := gb374) (o := .cells #[.bool a1_0, .string a1_1, .bool a1_2, .int .i64 a1_3, .int .i64 a1_4, .int .i64 a1_5, .int .i64 a1_6, .int .i64 a1_7] 75 (0, 0)) (by (with_reducible repeat (first | refine blk_drewN ?_ _ | refine blk_drew ?_ | refine blk_alloc ?_ _)); exact BK374.out)) : gb374 ≠ gb381)); have n6_ := Aside0.mk ((by rw [hg]; exact Nat.ne_of_gt (blk_lt (g := gb374) (o := .cells #[.bool a1_0, .string a1_1, .bool a1_2, .int .i64 a1_3, .int .i64 a1_4, .int .i64 a1_5, .int .i64 a1_6, .int .i64 a1_7] 75 (0, 0)) (by (with_reducible repeat (first | refine blk_drewN ?_ _ | refine blk_drew ?_ | refine blk_alloc ?_ _)); exact BK374.out)) : gb381 ≠ gb374)); clear BK374; clear HB; have BK374 := n0_; have HB := n1_; have BK381 := n2_; have GW381 := n3_; have GE381 := n4_; have NB374_381 := n5_; have NB381_374 := n6_; clear n0_ n1_ n2_ n3_ n4_ n5_ n6_; clear hb hbox hg; have hnb20 := NB381_374.out; have hnc20 := NB374_381.out; have hcz21_0 : w19.cell? ⟨gb381, 0, none⟩ = some (.bool false) := (blk_cell BK381.out 0).trans rfl; have hcz21_1 : w19.cell? ⟨gb381, 1, none⟩ = some (.int .i64 0) := (blk_cell BK381.out 1).trans rfl; have hcz21_2 : w19.cell? ⟨gb381, 2, none⟩ = some (.int .i64 0) := (blk_cell BK381.out 2).trans rfl; have hcz21_3 : w19.cell? ⟨gb381, 3, none⟩ = some (.int .i64 0) := (blk_cell BK381.out 3).trans rfl; have hcz21_4 : w19.cell? ⟨gb381, 4, none⟩ = some (.int .i64 0) := (blk_cell BK381.out 4).trans rfl; have hfz21_0 := blk_frozen BK381.out 0; have hfz21_1 := blk_frozen BK381.out 1; have hfz21_2 := blk_frozen BK381.out 2; have hfz21_3 := blk_frozen BK381.out 3; have hfz21_4 := blk_frozen BK381.out 4))
          go_loopg [6] kj2 (fun kq v6 w' => ∃ (x6_2 : Int) (x382000_2 : Bool) (x382001_2 : Int) (x382002_2 : Int) (x382003_2 : Int) (x382004_2 : Int), v6 = .int .i64 x6_2 ∧ Aside0 (regimenlaw31_PlatFalls.l0 kq l0 x6_2 a1_0 a1_1 a1_2 a1_3 a1_4 a1_5 a1_6 a1_7 x382000_2 x382001_2 x382002_2 x382003_2 x382004_2 = some r) ∧ Aside0 (kq ≤ kj2) ∧ Aside0 (w'.heap[gb374]? = some (.cells #[.bool a1_0, .string a1_1, .bool a1_2, .int .i64 a1_3, .int .i64 a1_4, .int .i64 a1_5, .int .i64 a1_6, .int .i64 a1_7] 75 (0, 0))) ∧ Aside0 (w'.heap[gb381]? = some (.cells #[.bool x382000_2, .int .i64 x382001_2, .int .i64 x382002_2, .int .i64 x382003_2, .int .i64 x382004_2] 73 (0, 0))) ∧ Aside0 (Below w.heap.size w w'))
          case atStart => exact ⟨(0), (t376), (t377), (t378), (t379), (t380), (by first | rfl | (simp; done) | (simp [*]; done)), H', ⟨Nat.le_refl _⟩, ⟨by (with_reducible repeat (first | refine blk_drewN ?_ _ | refine blk_drew ?_ | refine blk_alloc ?_ _)); refine blk_far ?_ NB374_381.out _; (with_reducible repeat (first | refine blk_drewN ?_ _ | refine blk_drew ?_ | refine blk_alloc ?_ _)); refine blk_far ?_ NB374_381.out _; (with_reducible repeat (first | refine blk_drewN ?_ _ | refine blk_drew ?_ | refine blk_alloc ?_ _)); refine blk_far ?_ NB374_381.out _; (with_reducible repeat (first | refine blk_drewN ?_ _ | refine blk_drew ?_ | refine blk_alloc ?_ _)); refine blk_far ?_ NB374_381.out _; (with_reducible repeat (first | refine blk_drewN ?_ _ | refine blk_drew ?_ | refine blk_alloc ?_ _)); refine blk_far ?_ NB374_381.out _; (with_reducible repeat (first | refine blk_drewN ?_ _ | refine blk_drew ?_ | refine blk_alloc ?_ _)); exact BK374.out⟩, ⟨by (with_reducible repeat (first | refine blk_drewN ?_ _ | refine blk_drew ?_ | refine blk_alloc ?_ _)); refine blk_put (cs := #[.bool t376, .int .i64 t377, .int .i64 t378, .int .i64 t379, .int .i64 0]) ?_ 4 _ rfl; (with_reducible repeat (first | refine blk_drewN ?_ _ | refine blk_drew ?_ | refine blk_alloc ?_ _)); refine blk_put (cs := #[.bool t376, .int .i64 t377, .int .i64 t378, .int .i64 0, .int .i64 0]) ?_ 3 _ rfl; (with_reducible repeat (first | refine blk_drewN ?_ _ | refine blk_drew ?_ | refine blk_alloc ?_ _)); refine blk_put (cs := #[.bool t376, .int .i64 t377, .int .i64 0, .int .i64 0, .int .i64 0]) ?_ 2 _ rfl; (with_reducible repeat (first | refine blk_drewN ?_ _ | refine blk_drew ?_ | refine blk_alloc ?_ _)); refine blk_put (cs := #[.bool t376, .int .i64 0, .int .i64 0, .int .i64 0, .int .i64 0]) ?_ 1 _ rfl; (with_reducible repeat (first | refine blk_drewN ?_ _ | refine blk_drew ?_ | refine blk_alloc ?_ _)); refine blk_put (cs := #[.bool false, .int .i64 0, .int .i64 0, .int .i64 0, .int .i64 0]) ?_ 0 _ rfl; (with_reducible repeat (first | refine blk_drewN ?_ _ | refine blk_drew ?_ | refine blk_alloc ?_ _)); exact BK381.out⟩, ⟨by repeat (first | (with_reducible first | exact HB.out | apply below_alloc | apply pw_below_drewN | apply below_drew1 | refine below_set ?_ GE374.out | refine below_set ?_ GE381.out) | exact HB.out)⟩⟩
          case round =>
            clear H'
            try clear c1
            try clear c2
            try clear p2
            try clear c5
            try clear c5b0
            try clear c5b1
            try clear c6
            try clear c6b0
            try clear c8
            try clear c8b0
            try clear c10
            try clear c10b0
            try clear c12
            try clear c13
            try clear c17
            try clear c17b0
            try clear c20
            try clear hcz11_0
            try clear hcz11_1
            try clear hcz11_2
            try clear hcz11_3
            try clear hcz11_4
            try clear hcz11_5
            try clear hcz11_6
            try clear hcz11_7
            try clear hcz12_0
            try clear hcz12_1
            try clear hcz12_2
            try clear hcz12_3
            try clear hcz12_4
            try clear hcz12_5
            try clear hcz12_6
            try clear hcz12_7
            try clear hcz21_0
            try clear hcz21_1
            try clear hcz21_2
            try clear hcz21_3
            try clear hcz21_4
            try clear hcz7_0
            try clear hcz7_1
            try clear hcz7_2
            try clear hcz7_3
            try clear hcz7_4
            try clear hcz7_5
            try clear hcz7_6
            try clear hcz7_7
            try clear hcz9_0
            try clear hcz9_1
            try clear hcz9_2
            try clear hcz9_3
            try clear hcz9_4
            try clear hcz9_5
            try clear hcz9_6
            try clear hcz9_7
            try clear hfz11_0
            try clear hfz11_1
            try clear hfz11_2
            try clear hfz11_3
            try clear hfz11_4
            try clear hfz11_5
            try clear hfz11_6
            try clear hfz11_7
            try clear hfz12_0
            try clear hfz12_1
            try clear hfz12_2
            try clear hfz12_3
            try clear hfz12_4
            try clear hfz12_5
            try clear hfz12_6
            try clear hfz12_7
            try clear hfz21_0
            try clear hfz21_1
            try clear hfz21_2
            try clear hfz21_3
            try clear hfz21_4
            try clear hfz7_0
            try clear hfz7_1
            try clear hfz7_2
            try clear hfz7_3
            try clear hfz7_4
            try clear hfz7_5
            try clear hfz7_6
            try clear hfz7_7
            try clear hfz9_0
            try clear hfz9_1
            try clear hfz9_2
            try clear hfz9_3
            try clear hfz9_4
            try clear hfz9_5
            try clear hfz9_6
            try clear hfz9_7
            try clear p2
            obtain ⟨x6_2, x382000_2, x382001_2, x382002_2, x382003_2, x382004_2, rfl, HA, HK2, BK374, BK381, HB⟩ := hrel
            cases gk with
            | zero => exact absurd HA.out (by simp [regimenlaw31_PlatFalls.l0])
            | succ k2 =>
              have H := HA.out
              clear HA
              simp only [regimenlaw31_PlatFalls.l0] at H
              by_cases c22 : x6_2 < (l0.length : Int)
              · rw [if_pos c22] at H
                have c22b0 : decide (x6_2 < (l0.length : Int)) = true := decide_eq_true c22
                clear c22
                by_cases c23 : 0 ≤ x6_2
                · rw [if_pos c23] at H
                  have c23b0 : decide (0 ≤ x6_2) = true := decide_eq_true c23
                  clear c23
                  replace H := Option.bind_eq_some_iff.mp H
                  obtain ⟨⟨t384, t385, t386, t387, t388, t389⟩, A240, H⟩ := H
                  replace H : ((regimenref31_Take.f k2 true 0 1099511627776 0 x382004_2 0 false (⟨#[]⟩ : ByteArray) false a1_3 1 0 0 0).bind fun bt391 => ((plat_Check.f k2 t384 t385 t386 t387 t388).bind fun t398 => (if t398 = true then (if t388 > x382004_2 then (none) else (if t389 = true then (if t388 = bt391.2.2.2.2.1 then (regimenlaw31_PlatFalls.l0 k2 l0 (wrap64 (x6_2 + 1)) a1_0 a1_1 a1_2 a1_3 a1_4 a1_5 a1_6 a1_7 t384 t385 t386 t387 t388) else (none)) else (if t388 = x382004_2 then (regimenlaw31_PlatFalls.l0 k2 l0 (wrap64 (x6_2 + 1)) a1_0 a1_1 a1_2 a1_3 a1_4 a1_5 a1_6 a1_7 t384 t385 t386 t387 t388) else (none)))) else (none)))) = some r := H
                  have A24 := Aside0.mk A240
                  clear A240
                  replace H := Option.bind_eq_some_iff.mp H
                  obtain ⟨⟨t391, t392, t393, t394, t395, t396⟩, A250, H⟩ := H
                  replace H : ((plat_Check.f k2 t384 t385 t386 t387 t388).bind fun t398 => (if t398 = true then (if t388 > x382004_2 then (none) else (if t389 = true then (if t388 = t395 then (regimenlaw31_PlatFalls.l0 k2 l0 (wrap64 (x6_2 + 1)) a1_0 a1_1 a1_2 a1_3 a1_4 a1_5 a1_6 a1_7 t384 t385 t386 t387 t388) else (none)) else (if t388 = x382004_2 then (regimenlaw31_PlatFalls.l0 k2 l0 (wrap64 (x6_2 + 1)) a1_0 a1_1 a1_2 a1_3 a1_4 a1_5 a1_6 a1_7 t384 t385 t386 t387 t388) else (none)))) else (none))) = some r := H
                  have A25 := Aside0.mk A250
                  clear A250
                  replace H := Option.bind_eq_some_iff.mp H
                  obtain ⟨t398, A260, H⟩ := H
                  replace H : (if t398 = true then (if t388 > x382004_2 then (none) else (if t389 = true then (if t388 = t395 then (regimenlaw31_PlatFalls.l0 k2 l0 (wrap64 (x6_2 + 1)) a1_0 a1_1 a1_2 a1_3 a1_4 a1_5 a1_6 a1_7 t384 t385 t386 t387 t388) else (none)) else (if t388 = x382004_2 then (regimenlaw31_PlatFalls.l0 k2 l0 (wrap64 (x6_2 + 1)) a1_0 a1_1 a1_2 a1_3 a1_4 a1_5 a1_6 a1_7 t384 t385 t386 t387 t388) else (none)))) else (none)) = some r := H
                  have A26 := Aside0.mk A260
                  clear A260
                  by_cases c27 : t398 = true
                  · subst c27
                    have H1 : (if t388 > x382004_2 then (none) else (if t389 = true then (if t388 = t395 then (regimenlaw31_PlatFalls.l0 k2 l0 (wrap64 (x6_2 + 1)) a1_0 a1_1 a1_2 a1_3 a1_4 a1_5 a1_6 a1_7 t384 t385 t386 t387 t388) else (none)) else (if t388 = x382004_2 then (regimenlaw31_PlatFalls.l0 k2 l0 (wrap64 (x6_2 + 1)) a1_0 a1_1 a1_2 a1_3 a1_4 a1_5 a1_6 a1_7 t384 t385 t386 t387 t388) else (none)))) = some r := by rw [if_pos rfl] at H; exact H
                    clear H
                    have H := H1
                    clear H1
                    by_cases c28 : t388 > x382004_2
                    · rw [if_pos c28] at H
                      exact absurd H (by simp)
                    · rw [if_neg c28] at H
                      have c28b0 : decide (x382004_2 < t388) = false := decide_eq_false c28
                      clear c28
                      by_cases c29 : t389 = true
                      · subst c29
                        have H1 : (if t388 = t395 then (regimenlaw31_PlatFalls.l0 k2 l0 (wrap64 (x6_2 + 1)) a1_0 a1_1 a1_2 a1_3 a1_4 a1_5 a1_6 a1_7 t384 t385 t386 t387 t388) else (none)) = some r := by rw [if_pos rfl] at H; exact H
                        clear H
                        have H := H1
                        clear H1
                        by_cases c30 : t388 = t395
                        · rw [if_pos c30] at H
                          have c30b0 : (t388 == t395) = true := beq_iff_eq.mpr c30
                          have c30b1 : (t388 != t395) = false := bne_eq_false_iff_eq.mpr c30
                          clear c30
                          (try (have c30_c17b0 := c17b0; simp only [c30b0, Bool.true_and, Bool.and_true, Bool.false_or, Bool.or_false, Bool.not_true, Bool.not_false] at c30_c17b0))
                          have H' := Aside0.mk H
                          clear H
                          try go_wp2
                          have n0_ := Aside0.mk (blk_drew BK374.out)
                          have n1_ := Aside0.mk (blk_drew BK381.out)
                          have n2_ := Aside0.mk (below_drew1 HB.out)
                          clear BK374
                          clear BK381
                          clear HB
                          have BK374 := n0_
                          have BK381 := n1_
                          have HB := n2_
                          clear n0_ n1_ n2_
                          have p383 : 0 ≤ (x6_2 : Int) := of_decide_eq_true (by first | (with_reducible assumption) | assumption)
                          have q383 : x6_2 < (l0.length : Int) := of_decide_eq_true (by first | (with_reducible assumption) | assumption)
                          obtain ⟨ad383, e383, hx383_0⟩ := Kd.at_int HR0.out x6_2 p383 q383
                          have hw383_0 := hx383_0
                          cases e383
                          replace hx383_0 := (HB.out.cell (World.block_lt_of_cell? w _ hx383_0)).trans hx383_0
                          replace p383 := eq_true p383
                          replace q383 := eq_true q383
                          refine start_ (n := 13) (S := fun w' => w'.cell? ⟨gb381, 0, none⟩ = some (.bool x382000_2) ∧ w'.cell? ⟨gb381, 1, none⟩ = some (.int .i64 x382001_2) ∧ w'.cell? ⟨gb381, 2, none⟩ = some (.int .i64 x382002_2) ∧ w'.cell? ⟨gb381, 3, none⟩ = some (.int .i64 x382003_2) ∧ w'.cell? ⟨gb381, 4, none⟩ = some (.int .i64 x382004_2) ∧ w'.cell? ⟨gb374, 0, none⟩ = some (.bool a1_0) ∧ w'.cell? ⟨gb374, 1, none⟩ = some (.string a1_1) ∧ w'.cell? ⟨gb374, 2, none⟩ = some (.bool a1_2) ∧ w'.cell? ⟨gb374, 3, none⟩ = some (.int .i64 a1_3) ∧ w'.cell? ⟨gb374, 4, none⟩ = some (.int .i64 a1_4) ∧ w'.cell? ⟨gb374, 5, none⟩ = some (.int .i64 a1_5) ∧ w'.cell? ⟨gb374, 6, none⟩ = some (.int .i64 a1_6) ∧ w'.cell? ⟨gb374, 7, none⟩ = some (.int .i64 a1_7) ∧ w'.cell? (ad383.add (x6_2).toNat) = some (.int .i64 (rd l0 x6_2))) (ds := []) #[false, false, false, false, false, false, false, false, false, false, false, false, false] (by kernel_rfl) rfl rfl ⟨(blk_cell BK381.out 0).trans rfl, (blk_cell BK381.out 1).trans rfl, (blk_cell BK381.out 2).trans rfl, (blk_cell BK381.out 3).trans rfl, (blk_cell BK381.out 4).trans rfl, (blk_cell BK374.out 0).trans rfl, (blk_cell BK374.out 1).trans rfl, (blk_cell BK374.out 2).trans rfl, (blk_cell BK374.out 3).trans rfl, (blk_cell BK374.out 4).trans rfl, (blk_cell BK374.out 5).trans rfl, (blk_cell BK374.out 6).trans rfl, (blk_cell BK374.out 7).trans rfl, ((HB.out.cell (World.block_lt_of_cell? w _ hw383_0)).trans hw383_0)⟩ (fun hHeld => ?_); refine with_tabW regimenlaw31_PlatFalls.tab9 regimenlaw31_PlatFalls.bits9 (fun HT_ HW_ => ?_)
                          generalize wr.drew = w31 at BK374 BK381 HB hx383_0 hHeld ⊢
                          refine pure_ (i := 1) (N := some 47) (v := ?_) (a' := ?_) #[false, true, false, false, false, false, false, false, false, false, false, false, false] rfl rfl (any_of HT_.out (by kernel_rfl)) (fun _ _ _ h => h) (Or.inl ⟨by rfl, ?_⟩) ?_ ?_
                          rotate_left
                          · intro w'
                            go_simp
                            with_reducible rfl
                          rotate_left
                          · simp only [Act.put, List.setIfInBounds_toArray, List.set_cons_zero, List.set_cons_succ, i64_w, i32_w]
                            rfl
                          refine pure_ (i := 2) (N := some 48) (v := ?_) (a' := ?_) #[false, true, true, false, false, false, false, false, false, false, false, false, false] rfl rfl (any_of HT_.out (by kernel_rfl)) (fun _ _ _ h => h) (Or.inl ⟨by rfl, ?_⟩) ?_ ?_
                          rotate_left
                          · intro w'
                            go_simp
                            with_reducible rfl
                          rotate_left
                          · simp only [Act.put, List.setIfInBounds_toArray, List.set_cons_zero, List.set_cons_succ, i64_w, i32_w]
                            rfl
                          refine pure_ (i := 3) (N := some 49) (v := ?_) (a' := ?_) #[false, true, true, true, false, false, false, false, false, false, false, false, false] rfl rfl (any_of HT_.out (by kernel_rfl)) (fun _ _ _ h => h) (Or.inl ⟨by rfl, ?_⟩) ?_ ?_
                          rotate_left
                          · intro w'
                            go_simp
                            with_reducible rfl
                          rotate_left
                          · simp only [Act.put, List.setIfInBounds_toArray, List.set_cons_zero, List.set_cons_succ, i64_w, i32_w]
                            rfl
                          refine take_ (i := 0) (N := some 46) (v := ?_) (a' := ?_) #[true, true, true, true, false, false, false, false, false, false, false, false, false] rfl rfl (take_ofW HT_.out HW_.out (by kernel_rfl)) (fun _ _ _ h => h) (Or.inl ⟨by rfl, ?_⟩) hHeld ?_ ?_
                          rotate_left
                          · rintro w' ⟨s0, s1, s2, s3, s4, s5, s6, s7, s8, s9, s10, s11, s12, s13⟩
                            go_simp
                            with_reducible rfl
                          rotate_left
                          · simp only [Act.put, List.setIfInBounds_toArray, List.set_cons_zero, List.set_cons_succ, i64_w, i32_w]
                            rfl
                          refine take_ (i := 4) (N := some 50) (v := ?_) (a' := ?_) #[true, true, true, true, true, false, false, false, false, false, false, false, false] rfl rfl (take_ofW HT_.out HW_.out (by kernel_rfl)) (fun _ _ _ h => h) (Or.inl ⟨by rfl, ?_⟩) hHeld ?_ ?_
                          rotate_left
                          · rintro w' ⟨s0, s1, s2, s3, s4, s5, s6, s7, s8, s9, s10, s11, s12, s13⟩
                            go_simp
                            with_reducible rfl
                          rotate_left
                          · simp only [Act.put, List.setIfInBounds_toArray, List.set_cons_zero, List.set_cons_succ, i64_w, i32_w]
                            rfl
                          refine take_ (i := 5) (N := some 51) (v := ?_) (a' := ?_) #[true, true, true, true, true, true, false, false, false, false, false, false, false] rfl rfl (take_ofW HT_.out HW_.out (by kernel_rfl)) (fun _ _ _ h => h) (Or.inl ⟨by rfl, ?_⟩) hHeld ?_ ?_
                          rotate_left
                          · rintro w' ⟨s0, s1, s2, s3, s4, s5, s6, s7, s8, s9, s10, s11, s12, s13⟩
                            go_simp
                            with_reducible rfl
                          rotate_left
                          · simp only [Act.put, List.setIfInBounds_toArray, List.set_cons_zero, List.set_cons_succ, i64_w, i32_w]
                            rfl
                          refine join_ (σ := Nat) 2 #[true, true, true, true, true, true, true, true, true, true, true, false, false] (fun s_ => [(52, .tuple #[.agg #[.bool t384, .int .i64 t385, .int .i64 t386, .int .i64 t387, .int .i64 t388], .bool true]), (7, .pointer (some ⟨s_, 0, none⟩)), (45, .tuple #[.agg #[.bool t384, .int .i64 t385, .int .i64 t386, .int .i64 t387, .int .i64 t388], .bool true]), (53, .agg #[.bool t384, .int .i64 t385, .int .i64 t386, .int .i64 t387, .int .i64 t388]), (54, .bool true)]) (fun s_ w' => (w'.cell? ⟨gb381, 0, none⟩ = some (.bool x382000_2) ∧ w'.cell? ⟨gb381, 1, none⟩ = some (.int .i64 x382001_2) ∧ w'.cell? ⟨gb381, 2, none⟩ = some (.int .i64 x382002_2) ∧ w'.cell? ⟨gb381, 3, none⟩ = some (.int .i64 x382003_2) ∧ w'.cell? ⟨gb381, 4, none⟩ = some (.int .i64 x382004_2) ∧ w'.cell? ⟨gb374, 0, none⟩ = some (.bool a1_0) ∧ w'.cell? ⟨gb374, 1, none⟩ = some (.string a1_1) ∧ w'.cell? ⟨gb374, 2, none⟩ = some (.bool a1_2) ∧ w'.cell? ⟨gb374, 3, none⟩ = some (.int .i64 a1_3) ∧ w'.cell? ⟨gb374, 4, none⟩ = some (.int .i64 a1_4) ∧ w'.cell? ⟨gb374, 5, none⟩ = some (.int .i64 a1_5) ∧ w'.cell? ⟨gb374, 6, none⟩ = some (.int .i64 a1_6) ∧ w'.cell? ⟨gb374, 7, none⟩ = some (.int .i64 a1_7) ∧ w'.cell? (ad383.add (x6_2).toNat) = some (.int .i64 (rd l0 x6_2))) ∧ (w'.heap[gb374]? = some (.cells #[.bool a1_0, .string a1_1, .bool a1_2, .int .i64 a1_3, .int .i64 a1_4, .int .i64 a1_5, .int .i64 a1_6, .int .i64 a1_7] 75 (0, 0))) ∧ (w'.heap[gb381]? = some (.cells #[.bool x382000_2, .int .i64 x382001_2, .int .i64 x382002_2, .int .i64 x382003_2, .int .i64 x382004_2] 73 (0, 0))) ∧ (w'.heap[s_]? = some (.cells #[.bool false, .int .i64 0, .int .i64 0, .int .i64 0, .int .i64 0] 73 (0, 0))) ∧ (w.heap.size ≤ s_) ∧ (w.heap.size ≤ s_) ∧ (gb374 ≠ s_) ∧ (s_ ≠ gb374) ∧ (gb381 ≠ s_) ∧ (s_ ≠ gb381) ∧ (Below w.heap.size w w')) ?_ ?_
                          rotate_left
                          · intro hCont
                            refine two_ (i := 6) (j := 10) (Ni := some 52) (Nj := some 7) #[true, true, true, true, true, true, true, false, false, false, false, false, false] #[true, true, true, true, true, true, false, false, false, false, true, false, false] rfl rfl rfl rfl (two_of HT_.out (by kernel_rfl)) (by decide) (by decide) (fun K hK => ?_) (fun K hK => ?_)
                            · skip
                              refine goes_ Try.func44 (by kernel_rfl) rfl #[.agg #[.bool x382000_2, .int .i64 x382001_2, .int .i64 x382002_2, .int .i64 x382003_2, .int .i64 x382004_2], .int .i64 (rd l0 x6_2), .agg #[.bool a1_0, .string a1_1, .bool a1_2, .int .i64 a1_3, .int .i64 a1_4, .int .i64 a1_5, .int .i64 a1_6, .int .i64 a1_7]] (by rfl) rfl rfl (by (try simp only [List.map_toArray, List.map_cons, List.map_nil]); first | done | rfl | (simp only [List.length_drop, List.length_take]; rfl)) ?_
                              with_reducible refine (plat_Take.calls k2 x382000_2 x382001_2 x382002_2 x382003_2 x382004_2 (rd l0 x6_2) a1_0 a1_1 a1_2 a1_3 a1_4 a1_5 a1_6 a1_7 t384 t385 t386 t387 t388 true _ A24.out).mono ?_
                              rintro e w32 ⟨rfl, hb⟩
                              refine ⟨_, rfl, ?_⟩
                              have n0_ := Aside0.mk (blk_below (g := gb374) (o := .cells #[.bool a1_0, .string a1_1, .bool a1_2, .int .i64 a1_3, .int .i64 a1_4, .int .i64 a1_5, .int .i64 a1_6, .int .i64 a1_7] 75 (0, 0)) (by (with_reducible repeat (first | refine blk_drewN ?_ _ | refine blk_drew ?_ | refine blk_alloc ?_ _)); exact BK374.out) hb)
                              have n1_ := Aside0.mk (blk_below (g := gb381) (o := .cells #[.bool x382000_2, .int .i64 x382001_2, .int .i64 x382002_2, .int .i64 x382003_2, .int .i64 x382004_2] 73 (0, 0)) (by (with_reducible repeat (first | refine blk_drewN ?_ _ | refine blk_drew ?_ | refine blk_alloc ?_ _)); exact BK381.out) hb)
                              have n2_ := Aside0.mk (below_step (by repeat (first | (with_reducible first | exact HB.out | apply below_alloc | apply pw_below_drewN | apply below_drew1 | refine below_set ?_ GE374.out | refine below_set ?_ GE381.out) | exact HB.out)) hb)
                              clear BK374
                              clear BK381
                              clear HB
                              have BK374 := n0_
                              have BK381 := n1_
                              have HB := n2_
                              clear n0_ n1_ n2_
                              (try clear hb)
                              (try clear hb2)
                              (try clear hk)
                              (try clear hi)
                              refine hK.out _ _ ⟨(blk_cell BK381.out 0).trans rfl, (blk_cell BK381.out 1).trans rfl, (blk_cell BK381.out 2).trans rfl, (blk_cell BK381.out 3).trans rfl, (blk_cell BK381.out 4).trans rfl, (blk_cell BK374.out 0).trans rfl, (blk_cell BK374.out 1).trans rfl, (blk_cell BK374.out 2).trans rfl, (blk_cell BK374.out 3).trans rfl, (blk_cell BK374.out 4).trans rfl, (blk_cell BK374.out 5).trans rfl, (blk_cell BK374.out 6).trans rfl, (blk_cell BK374.out 7).trans rfl, ((HB.out.cell (World.block_lt_of_cell? w _ hw383_0)).trans hw383_0)⟩ (fun hHeld => ?_)
                              clear hK K
                              refine norm_ (a' := ?_) ?_ ?_
                              rotate_left
                              · show Act.put _ (some 52) _ = _
                                simp only [Act.put, List.setIfInBounds_toArray, List.set_cons_zero, List.set_cons_succ, i64_w, i32_w]
                                rfl
                              refine pure_ (i := 7) (N := some 45) (v := ?_) (a' := ?_) #[true, true, true, true, true, true, true, true, false, false, false, false, false] rfl rfl (any_of HT_.out (by kernel_rfl)) (fun _ _ _ h => h) (Or.inl ⟨by rfl, ?_⟩) ?_ ?_
                              rotate_left
                              · intro w'
                                go_simp
                                with_reducible rfl
                              rotate_left
                              · simp only [Act.put, List.setIfInBounds_toArray, List.set_cons_zero, List.set_cons_succ, i64_w, i32_w]
                                rfl
                              refine pure_ (i := 8) (N := some 53) (v := ?_) (a' := ?_) #[true, true, true, true, true, true, true, true, true, false, false, false, false] rfl rfl (any_of HT_.out (by kernel_rfl)) (fun _ _ _ h => h) (Or.inl ⟨by rfl, ?_⟩) ?_ ?_
                              rotate_left
                              · intro w'
                                go_simp
                                with_reducible rfl
                              rotate_left
                              · simp only [Act.put, List.setIfInBounds_toArray, List.set_cons_zero, List.set_cons_succ, i64_w, i32_w]
                                rfl
                              refine pure_ (i := 9) (N := some 54) (v := ?_) (a' := ?_) #[true, true, true, true, true, true, true, true, true, true, false, false, false] rfl rfl (any_of HT_.out (by kernel_rfl)) (fun _ _ _ h => h) (Or.inl ⟨by rfl, ?_⟩) ?_ ?_
                              rotate_left
                              · intro w'
                                go_simp
                                with_reducible rfl
                              rotate_left
                              · simp only [Act.put, List.setIfInBounds_toArray, List.set_cons_zero, List.set_cons_succ, i64_w, i32_w]
                                rfl
                              refine one_ (i := 10) (N := some 7) #[true, true, true, true, true, true, true, true, true, true, true, false, false] rfl rfl (one_of HT_.out (by kernel_rfl)) (by decide) (fun K hK => ?_)
                              refine box_step ?hg (N := 7) ?hd (cs := #[.bool false, .int .i64 0, .int .i64 0, .int .i64 0, .int .i64 0]) (t := 73) ?hr ?_; (case hd => rfl); (case hg => rfl); (case hr => first | (go_simp; done) | (go_simp; rfl))
                              intro gb390 hg w33 hbox hb
                              have n0_ := Aside0.mk (blk_below (g := gb374) (o := .cells #[.bool a1_0, .string a1_1, .bool a1_2, .int .i64 a1_3, .int .i64 a1_4, .int .i64 a1_5, .int .i64 a1_6, .int .i64 a1_7] 75 (0, 0)) (by (with_reducible repeat (first | refine blk_drewN ?_ _ | refine blk_drew ?_ | refine blk_alloc ?_ _)); exact BK374.out) hb)
                              have n1_ := Aside0.mk (blk_below (g := gb381) (o := .cells #[.bool x382000_2, .int .i64 x382001_2, .int .i64 x382002_2, .int .i64 x382003_2, .int .i64 x382004_2] 73 (0, 0)) (by (with_reducible repeat (first | refine blk_drewN ?_ _ | refine blk_drew ?_ | refine blk_alloc ?_ _)); exact BK381.out) hb)
                              have n2_ := Aside0.mk (below_step (by repeat (first | (with_reducible first | exact HB.out | apply below_alloc | apply pw_below_drewN | apply below_drew1 | refine below_set ?_ GE374.out | refine below_set ?_ GE381.out) | exact HB.out)) hb)
                              have n3_ := Aside0.mk (hbox)
                              have n4_ := Aside0.mk ((by rw [hg]; exact (below_size (by repeat (first | (with_reducible first | exact HB.out | apply below_alloc | apply pw_below_drewN | apply below_drew1 | refine below_set ?_ GE374.out | refine below_set ?_ GE381.out) | exact HB.out))) : w.heap.size ≤ gb390))
                              have n5_ := Aside0.mk ((by rw [hg]; exact (below_size (by repeat (first | (with_reducible first | exact HB.out | apply below_alloc | apply pw_below_drewN | apply below_drew1 | refine below_set ?_ GE374.out | refine below_set ?_ GE381.out) | exact HB.out))) : w.heap.size ≤ gb390))
                              have n6_ := Aside0.mk ((by rw [hg]; exact Nat.ne_of_lt (blk_lt (g := gb374) (o := .cells #[.bool a1_0, .string a1_1, .bool a1_2, .int .i64 a1_3, .int .i64 a1_4, .int .i64 a1_5, .int .i64 a1_6, .int .i64 a1_7] 75 (0, 0)) (by (with_reducible repeat (first | refine blk_drewN ?_ _ | refine blk_drew ?_ | refine blk_alloc ?_ _)); exact BK374.out)) : gb374 ≠ gb390))
                              have n7_ := Aside0.mk ((by rw [hg]; exact Nat.ne_of_gt (blk_lt (g := gb374) (o := .cells #[.bool a1_0, .string a1_1, .bool a1_2, .int .i64 a1_3, .int .i64 a1_4, .int .i64 a1_5, .int .i64 a1_6, .int .i64 a1_7] 75 (0, 0)) (by (with_reducible repeat (first | refine blk_drewN ?_ _ | refine blk_drew ?_ | refine blk_alloc ?_ _)); exact BK374.out)) : gb390 ≠ gb374))
                              have n8_ := Aside0.mk ((by rw [hg]; exact Nat.ne_of_lt (blk_lt (g := gb381) (o := .cells #[.bool x382000_2, .int .i64 x382001_2, .int .i64 x382002_2, .int .i64 x382003_2, .int .i64 x382004_2] 73 (0, 0)) (by (with_reducible repeat (first | refine blk_drewN ?_ _ | refine blk_drew ?_ | refine blk_alloc ?_ _)); exact BK381.out)) : gb381 ≠ gb390))
                              have n9_ := Aside0.mk ((by rw [hg]; exact Nat.ne_of_gt (blk_lt (g := gb381) (o := .cells #[.bool x382000_2, .int .i64 x382001_2, .int .i64 x382002_2, .int .i64 x382003_2, .int .i64 x382004_2] 73 (0, 0)) (by (with_reducible repeat (first | refine blk_drewN ?_ _ | refine blk_drew ?_ | refine blk_alloc ?_ _)); exact BK381.out)) : gb390 ≠ gb381))
                              clear BK374
                              clear BK381
                              clear HB
                              have BK374 := n0_
                              have BK381 := n1_
                              have HB := n2_
                              have BK390 := n3_
                              have GW390 := n4_
                              have GE390 := n5_
                              have NB374_390 := n6_
                              have NB390_374 := n7_
                              have NB381_390 := n8_
                              have NB390_381 := n9_
                              clear n0_ n1_ n2_ n3_ n4_ n5_ n6_ n7_ n8_ n9_
                              clear hb hbox hg
                              refine hK.out _ _ ⟨(blk_cell BK381.out 0).trans rfl, (blk_cell BK381.out 1).trans rfl, (blk_cell BK381.out 2).trans rfl, (blk_cell BK381.out 3).trans rfl, (blk_cell BK381.out 4).trans rfl, (blk_cell BK374.out 0).trans rfl, (blk_cell BK374.out 1).trans rfl, (blk_cell BK374.out 2).trans rfl, (blk_cell BK374.out 3).trans rfl, (blk_cell BK374.out 4).trans rfl, (blk_cell BK374.out 5).trans rfl, (blk_cell BK374.out 6).trans rfl, (blk_cell BK374.out 7).trans rfl, ((HB.out.cell (World.block_lt_of_cell? w _ hw383_0)).trans hw383_0)⟩ (fun hHeld => ?_)
                              clear hK K
                              refine norm_ (a' := ?_) ?_ ?_
                              rotate_left
                              · show Act.put _ (some 7) _ = _
                                simp only [Act.put, List.setIfInBounds_toArray, List.set_cons_zero, List.set_cons_succ, i64_w, i32_w]
                                rfl
                              exact norm_ (by simp only [putAll, Act.put, List.setIfInBounds_toArray, List.set_cons_zero, List.set_cons_succ]) (hCont (gb390) _ ⟨hHeld, (by (with_reducible repeat (first | refine blk_drewN ?_ _ | refine blk_drew ?_ | refine blk_alloc ?_ _)); exact BK374.out), (by (with_reducible repeat (first | refine blk_drewN ?_ _ | refine blk_drew ?_ | refine blk_alloc ?_ _)); exact BK381.out), (by (with_reducible repeat (first | refine blk_drewN ?_ _ | refine blk_drew ?_ | refine blk_alloc ?_ _)); exact BK390.out), GW390.out, GE390.out, NB374_390.out, NB390_374.out, NB381_390.out, NB390_381.out, (by repeat (first | (with_reducible first | exact HB.out | apply below_alloc | apply pw_below_drewN | apply below_drew1 | refine below_set ?_ GE374.out | refine below_set ?_ GE381.out | refine below_set ?_ GE390.out) | exact HB.out))⟩)
                            · skip
                              refine box_step ?hg (N := 7) ?hd (cs := #[.bool false, .int .i64 0, .int .i64 0, .int .i64 0, .int .i64 0]) (t := 73) ?hr ?_; (case hd => rfl); (case hg => rfl); (case hr => first | (go_simp; done) | (go_simp; rfl))
                              intro gb390 hg w32 hbox hb
                              have n0_ := Aside0.mk (blk_below (g := gb374) (o := .cells #[.bool a1_0, .string a1_1, .bool a1_2, .int .i64 a1_3, .int .i64 a1_4, .int .i64 a1_5, .int .i64 a1_6, .int .i64 a1_7] 75 (0, 0)) (by (with_reducible repeat (first | refine blk_drewN ?_ _ | refine blk_drew ?_ | refine blk_alloc ?_ _)); exact BK374.out) hb)
                              have n1_ := Aside0.mk (blk_below (g := gb381) (o := .cells #[.bool x382000_2, .int .i64 x382001_2, .int .i64 x382002_2, .int .i64 x382003_2, .int .i64 x382004_2] 73 (0, 0)) (by (with_reducible repeat (first | refine blk_drewN ?_ _ | refine blk_drew ?_ | refine blk_alloc ?_ _)); exact BK381.out) hb)
                              have n2_ := Aside0.mk (below_step (by repeat (first | (with_reducible first | exact HB.out | apply below_alloc | apply pw_below_drewN | apply below_drew1 | refine below_set ?_ GE374.out | refine below_set ?_ GE381.out) | exact HB.out)) hb)
                              have n3_ := Aside0.mk (hbox)
                              have n4_ := Aside0.mk ((by rw [hg]; exact (below_size (by repeat (first | (with_reducible first | exact HB.out | apply below_alloc | apply pw_below_drewN | apply below_drew1 | refine below_set ?_ GE374.out | refine below_set ?_ GE381.out) | exact HB.out))) : w.heap.size ≤ gb390))
                              have n5_ := Aside0.mk ((by rw [hg]; exact (below_size (by repeat (first | (with_reducible first | exact HB.out | apply below_alloc | apply pw_below_drewN | apply below_drew1 | refine below_set ?_ GE374.out | refine below_set ?_ GE381.out) | exact HB.out))) : w.heap.size ≤ gb390))
                              have n6_ := Aside0.mk ((by rw [hg]; exact Nat.ne_of_lt (blk_lt (g := gb374) (o := .cells #[.bool a1_0, .string a1_1, .bool a1_2, .int .i64 a1_3, .int .i64 a1_4, .int .i64 a1_5, .int .i64 a1_6, .int .i64 a1_7] 75 (0, 0)) (by (with_reducible repeat (first | refine blk_drewN ?_ _ | refine blk_drew ?_ | refine blk_alloc ?_ _)); exact BK374.out)) : gb374 ≠ gb390))
                              have n7_ := Aside0.mk ((by rw [hg]; exact Nat.ne_of_gt (blk_lt (g := gb374) (o := .cells #[.bool a1_0, .string a1_1, .bool a1_2, .int .i64 a1_3, .int .i64 a1_4, .int .i64 a1_5, .int .i64 a1_6, .int .i64 a1_7] 75 (0, 0)) (by (with_reducible repeat (first | refine blk_drewN ?_ _ | refine blk_drew ?_ | refine blk_alloc ?_ _)); exact BK374.out)) : gb390 ≠ gb374))
                              have n8_ := Aside0.mk ((by rw [hg]; exact Nat.ne_of_lt (blk_lt (g := gb381) (o := .cells #[.bool x382000_2, .int .i64 x382001_2, .int .i64 x382002_2, .int .i64 x382003_2, .int .i64 x382004_2] 73 (0, 0)) (by (with_reducible repeat (first | refine blk_drewN ?_ _ | refine blk_drew ?_ | refine blk_alloc ?_ _)); exact BK381.out)) : gb381 ≠ gb390))
                              have n9_ := Aside0.mk ((by rw [hg]; exact Nat.ne_of_gt (blk_lt (g := gb381) (o := .cells #[.bool x382000_2, .int .i64 x382001_2, .int .i64 x382002_2, .int .i64 x382003_2, .int .i64 x382004_2] 73 (0, 0)) (by (with_reducible repeat (first | refine blk_drewN ?_ _ | refine blk_drew ?_ | refine blk_alloc ?_ _)); exact BK381.out)) : gb390 ≠ gb381))
                              clear BK374
                              clear BK381
                              clear HB
                              have BK374 := n0_
                              have BK381 := n1_
                              have HB := n2_
                              have BK390 := n3_
                              have GW390 := n4_
                              have GE390 := n5_
                              have NB374_390 := n6_
                              have NB390_374 := n7_
                              have NB381_390 := n8_
                              have NB390_381 := n9_
                              clear n0_ n1_ n2_ n3_ n4_ n5_ n6_ n7_ n8_ n9_
                              clear hb hbox hg
                              refine hK.out _ _ ⟨(blk_cell BK381.out 0).trans rfl, (blk_cell BK381.out 1).trans rfl, (blk_cell BK381.out 2).trans rfl, (blk_cell BK381.out 3).trans rfl, (blk_cell BK381.out 4).trans rfl, (blk_cell BK374.out 0).trans rfl, (blk_cell BK374.out 1).trans rfl, (blk_cell BK374.out 2).trans rfl, (blk_cell BK374.out 3).trans rfl, (blk_cell BK374.out 4).trans rfl, (blk_cell BK374.out 5).trans rfl, (blk_cell BK374.out 6).trans rfl, (blk_cell BK374.out 7).trans rfl, ((HB.out.cell (World.block_lt_of_cell? w _ hw383_0)).trans hw383_0)⟩ (fun hHeld => ?_)
                              clear hK K
                              refine norm_ (a' := ?_) ?_ ?_
                              rotate_left
                              · show Act.put _ (some 7) _ = _
                                simp only [Act.put, List.setIfInBounds_toArray, List.set_cons_zero, List.set_cons_succ, i64_w, i32_w]
                                rfl
                              refine one_ (i := 6) (N := some 52) #[true, true, true, true, true, true, true, false, false, false, true, false, false] rfl rfl (one_of HT_.out (by kernel_rfl)) (by decide) (fun K hK => ?_)
                              refine goes_ Try.func44 (by kernel_rfl) rfl #[.agg #[.bool x382000_2, .int .i64 x382001_2, .int .i64 x382002_2, .int .i64 x382003_2, .int .i64 x382004_2], .int .i64 (rd l0 x6_2), .agg #[.bool a1_0, .string a1_1, .bool a1_2, .int .i64 a1_3, .int .i64 a1_4, .int .i64 a1_5, .int .i64 a1_6, .int .i64 a1_7]] (by rfl) rfl rfl (by (try simp only [List.map_toArray, List.map_cons, List.map_nil]); first | done | rfl | (simp only [List.length_drop, List.length_take]; rfl)) ?_
                              with_reducible refine (plat_Take.calls k2 x382000_2 x382001_2 x382002_2 x382003_2 x382004_2 (rd l0 x6_2) a1_0 a1_1 a1_2 a1_3 a1_4 a1_5 a1_6 a1_7 t384 t385 t386 t387 t388 true _ A24.out).mono ?_
                              rintro e w33 ⟨rfl, hb⟩
                              refine ⟨_, rfl, ?_⟩
                              have n0_ := Aside0.mk (blk_below (g := gb374) (o := .cells #[.bool a1_0, .string a1_1, .bool a1_2, .int .i64 a1_3, .int .i64 a1_4, .int .i64 a1_5, .int .i64 a1_6, .int .i64 a1_7] 75 (0, 0)) (by (with_reducible repeat (first | refine blk_drewN ?_ _ | refine blk_drew ?_ | refine blk_alloc ?_ _)); exact BK374.out) hb)
                              have n1_ := Aside0.mk (blk_below (g := gb381) (o := .cells #[.bool x382000_2, .int .i64 x382001_2, .int .i64 x382002_2, .int .i64 x382003_2, .int .i64 x382004_2] 73 (0, 0)) (by (with_reducible repeat (first | refine blk_drewN ?_ _ | refine blk_drew ?_ | refine blk_alloc ?_ _)); exact BK381.out) hb)
                              have n2_ := Aside0.mk (blk_below (g := gb390) (o := .cells #[.bool false, .int .i64 0, .int .i64 0, .int .i64 0, .int .i64 0] 73 (0, 0)) (by (with_reducible repeat (first | refine blk_drewN ?_ _ | refine blk_drew ?_ | refine blk_alloc ?_ _)); exact BK390.out) hb)
                              have n3_ := Aside0.mk (below_step (by repeat (first | (with_reducible first | exact HB.out | apply below_alloc | apply pw_below_drewN | apply below_drew1 | refine below_set ?_ GE374.out | refine below_set ?_ GE381.out | refine below_set ?_ GE390.out) | exact HB.out)) hb)
                              clear BK374
                              clear BK381
                              clear BK390
                              clear HB
                              have BK374 := n0_
                              have BK381 := n1_
                              have BK390 := n2_
                              have HB := n3_
                              clear n0_ n1_ n2_ n3_
                              (try clear hb)
                              (try clear hb2)
                              (try clear hk)
                              (try clear hi)
                              refine hK.out _ _ ⟨(blk_cell BK381.out 0).trans rfl, (blk_cell BK381.out 1).trans rfl, (blk_cell BK381.out 2).trans rfl, (blk_cell BK381.out 3).trans rfl, (blk_cell BK381.out 4).trans rfl, (blk_cell BK374.out 0).trans rfl, (blk_cell BK374.out 1).trans rfl, (blk_cell BK374.out 2).trans rfl, (blk_cell BK374.out 3).trans rfl, (blk_cell BK374.out 4).trans rfl, (blk_cell BK374.out 5).trans rfl, (blk_cell BK374.out 6).trans rfl, (blk_cell BK374.out 7).trans rfl, ((HB.out.cell (World.block_lt_of_cell? w _ hw383_0)).trans hw383_0)⟩ (fun hHeld => ?_)
                              clear hK K
                              refine norm_ (a' := ?_) ?_ ?_
                              rotate_left
                              · show Act.put _ (some 52) _ = _
                                simp only [Act.put, List.setIfInBounds_toArray, List.set_cons_zero, List.set_cons_succ, i64_w, i32_w]
                                rfl
                              refine pure_ (i := 7) (N := some 45) (v := ?_) (a' := ?_) #[true, true, true, true, true, true, true, true, false, false, true, false, false] rfl rfl (any_of HT_.out (by kernel_rfl)) (fun _ _ _ h => h) (Or.inl ⟨by rfl, ?_⟩) ?_ ?_
                              rotate_left
                              · intro w'
                                go_simp
                                with_reducible rfl
                              rotate_left
                              · simp only [Act.put, List.setIfInBounds_toArray, List.set_cons_zero, List.set_cons_succ, i64_w, i32_w]
                                rfl
                              refine pure_ (i := 8) (N := some 53) (v := ?_) (a' := ?_) #[true, true, true, true, true, true, true, true, true, false, true, false, false] rfl rfl (any_of HT_.out (by kernel_rfl)) (fun _ _ _ h => h) (Or.inl ⟨by rfl, ?_⟩) ?_ ?_
                              rotate_left
                              · intro w'
                                go_simp
                                with_reducible rfl
                              rotate_left
                              · simp only [Act.put, List.setIfInBounds_toArray, List.set_cons_zero, List.set_cons_succ, i64_w, i32_w]
                                rfl
                              refine pure_ (i := 9) (N := some 54) (v := ?_) (a' := ?_) #[true, true, true, true, true, true, true, true, true, true, true, false, false] rfl rfl (any_of HT_.out (by kernel_rfl)) (fun _ _ _ h => h) (Or.inl ⟨by rfl, ?_⟩) ?_ ?_
                              rotate_left
                              · intro w'
                                go_simp
                                with_reducible rfl
                              rotate_left
                              · simp only [Act.put, List.setIfInBounds_toArray, List.set_cons_zero, List.set_cons_succ, i64_w, i32_w]
                                rfl
                              exact norm_ (by simp only [putAll, Act.put, List.setIfInBounds_toArray, List.set_cons_zero, List.set_cons_succ]) (hCont (gb390) _ ⟨hHeld, (by (with_reducible repeat (first | refine blk_drewN ?_ _ | refine blk_drew ?_ | refine blk_alloc ?_ _)); exact BK374.out), (by (with_reducible repeat (first | refine blk_drewN ?_ _ | refine blk_drew ?_ | refine blk_alloc ?_ _)); exact BK381.out), (by (with_reducible repeat (first | refine blk_drewN ?_ _ | refine blk_drew ?_ | refine blk_alloc ?_ _)); exact BK390.out), GW390.out, GE390.out, NB374_390.out, NB390_374.out, NB381_390.out, NB390_381.out, (by repeat (first | (with_reducible first | exact HB.out | apply below_alloc | apply pw_below_drewN | apply below_drew1 | refine below_set ?_ GE374.out | refine below_set ?_ GE381.out | refine below_set ?_ GE390.out) | exact HB.out))⟩)
                          rintro gb390 w34 ⟨hS_, h0_, h1_, h2_, h3_, h4_, h5_, h6_, h7_, h8_, h9_⟩
                          have n0_ : Aside0 (w34.heap[gb374]? = some (.cells #[.bool a1_0, .string a1_1, .bool a1_2, .int .i64 a1_3, .int .i64 a1_4, .int .i64 a1_5, .int .i64 a1_6, .int .i64 a1_7] 75 (0, 0))) := ⟨h0_⟩
                          have n1_ : Aside0 (w34.heap[gb381]? = some (.cells #[.bool x382000_2, .int .i64 x382001_2, .int .i64 x382002_2, .int .i64 x382003_2, .int .i64 x382004_2] 73 (0, 0))) := ⟨h1_⟩
                          have n2_ : Aside0 (w34.heap[gb390]? = some (.cells #[.bool false, .int .i64 0, .int .i64 0, .int .i64 0, .int .i64 0] 73 (0, 0))) := ⟨h2_⟩
                          have n3_ : Aside0 (w.heap.size ≤ gb390) := ⟨h3_⟩
                          have n4_ : Aside0 (w.heap.size ≤ gb390) := ⟨h4_⟩
                          have n5_ : Aside0 (gb374 ≠ gb390) := ⟨h5_⟩
                          have n6_ : Aside0 (gb390 ≠ gb374) := ⟨h6_⟩
                          have n7_ : Aside0 (gb381 ≠ gb390) := ⟨h7_⟩
                          have n8_ : Aside0 (gb390 ≠ gb381) := ⟨h8_⟩
                          have n9_ : Aside0 (Below w.heap.size w w34) := ⟨h9_⟩
                          clear BK374
                          clear BK381
                          clear HB
                          clear h0_ h1_ h2_ h3_ h4_ h5_ h6_ h7_ h8_ h9_
                          have BK374 := n0_
                          have BK381 := n1_
                          have BK390 := n2_
                          have GW390 := n3_
                          have GE390 := n4_
                          have NB374_390 := n5_
                          have NB390_374 := n6_
                          have NB381_390 := n7_
                          have NB390_381 := n8_
                          have HB := n9_
                          clear n0_ n1_ n2_ n3_ n4_ n5_ n6_ n7_ n8_ n9_
                          have hHeld : w34.cell? ⟨gb381, 0, none⟩ = some (.bool x382000_2) ∧ w34.cell? ⟨gb381, 1, none⟩ = some (.int .i64 x382001_2) ∧ w34.cell? ⟨gb381, 2, none⟩ = some (.int .i64 x382002_2) ∧ w34.cell? ⟨gb381, 3, none⟩ = some (.int .i64 x382003_2) ∧ w34.cell? ⟨gb381, 4, none⟩ = some (.int .i64 x382004_2) ∧ w34.cell? ⟨gb374, 0, none⟩ = some (.bool a1_0) ∧ w34.cell? ⟨gb374, 1, none⟩ = some (.string a1_1) ∧ w34.cell? ⟨gb374, 2, none⟩ = some (.bool a1_2) ∧ w34.cell? ⟨gb374, 3, none⟩ = some (.int .i64 a1_3) ∧ w34.cell? ⟨gb374, 4, none⟩ = some (.int .i64 a1_4) ∧ w34.cell? ⟨gb374, 5, none⟩ = some (.int .i64 a1_5) ∧ w34.cell? ⟨gb374, 6, none⟩ = some (.int .i64 a1_6) ∧ w34.cell? ⟨gb374, 7, none⟩ = some (.int .i64 a1_7) ∧ w34.cell? (ad383.add (x6_2).toNat) = some (.int .i64 (rd l0 x6_2)) := hS_
                          refine norm_ (a' := ?_) ?_ ?_
                          rotate_left
                          · simp only [putAll, Act.put, List.setIfInBounds_toArray, List.set_cons_zero, List.set_cons_succ]
                            rfl
                          refine one_ (i := 11) (N := none) #[true, true, true, true, true, true, true, true, true, true, true, true, false] rfl rfl (one_of HT_.out (by kernel_rfl)) (by decide) (fun K hK => ?_)
                          have hs35 : w34.cell? ⟨gb390, 0, none⟩ = some (.bool false) := (blk_cell BK390.out 0).trans rfl
                          have hfs35 := blk_frozen BK390.out 0
                          have hns35_0 := NB374_390.out
                          have hns35_1 := NB381_390.out
                          have hms35_0 := NB390_374.out
                          have hms35_1 := NB390_381.out
                          have hs36 : w34.cell? ⟨gb390, 1, none⟩ = some (.int .i64 0) := (blk_cell BK390.out 1).trans rfl
                          have hfs36 := blk_frozen BK390.out 1
                          have hns36_0 := NB374_390.out
                          have hns36_1 := NB381_390.out
                          have hms36_0 := NB390_374.out
                          have hms36_1 := NB390_381.out
                          have hs37 : w34.cell? ⟨gb390, 2, none⟩ = some (.int .i64 0) := (blk_cell BK390.out 2).trans rfl
                          have hfs37 := blk_frozen BK390.out 2
                          have hns37_0 := NB374_390.out
                          have hns37_1 := NB381_390.out
                          have hms37_0 := NB390_374.out
                          have hms37_1 := NB390_381.out
                          have hs38 : w34.cell? ⟨gb390, 3, none⟩ = some (.int .i64 0) := (blk_cell BK390.out 3).trans rfl
                          have hfs38 := blk_frozen BK390.out 3
                          have hns38_0 := NB374_390.out
                          have hns38_1 := NB381_390.out
                          have hms38_0 := NB390_374.out
                          have hms38_1 := NB390_381.out
                          have hs39 : w34.cell? ⟨gb390, 4, none⟩ = some (.int .i64 0) := (blk_cell BK390.out 4).trans rfl
                          have hfs39 := blk_frozen BK390.out 4
                          have hns39_0 := NB374_390.out
                          have hns39_1 := NB381_390.out
                          have hms39_0 := NB390_374.out
                          have hms39_1 := NB390_381.out
                          refine skip_ (w1 := ?_) (by rfl) rfl ?_ ?_
                          rotate_left
                          · go_simp
                            rfl
                          refine hK.out _ _ ⟨((cell_far (p := ⟨gb390, _, none⟩) NB381_390.out _).trans (((cell_far (p := ⟨gb390, _, none⟩) NB381_390.out _).trans (((cell_far (p := ⟨gb390, _, none⟩) NB381_390.out _).trans (((cell_far (p := ⟨gb390, _, none⟩) NB381_390.out _).trans (((cell_far (p := ⟨gb390, _, none⟩) NB381_390.out _).trans (hHeld.1)))))))))), ((cell_far (p := ⟨gb390, _, none⟩) NB381_390.out _).trans (((cell_far (p := ⟨gb390, _, none⟩) NB381_390.out _).trans (((cell_far (p := ⟨gb390, _, none⟩) NB381_390.out _).trans (((cell_far (p := ⟨gb390, _, none⟩) NB381_390.out _).trans (((cell_far (p := ⟨gb390, _, none⟩) NB381_390.out _).trans (hHeld.2.1)))))))))), ((cell_far (p := ⟨gb390, _, none⟩) NB381_390.out _).trans (((cell_far (p := ⟨gb390, _, none⟩) NB381_390.out _).trans (((cell_far (p := ⟨gb390, _, none⟩) NB381_390.out _).trans (((cell_far (p := ⟨gb390, _, none⟩) NB381_390.out _).trans (((cell_far (p := ⟨gb390, _, none⟩) NB381_390.out _).trans (hHeld.2.2.1)))))))))), ((cell_far (p := ⟨gb390, _, none⟩) NB381_390.out _).trans (((cell_far (p := ⟨gb390, _, none⟩) NB381_390.out _).trans (((cell_far (p := ⟨gb390, _, none⟩) NB381_390.out _).trans (((cell_far (p := ⟨gb390, _, none⟩) NB381_390.out _).trans (((cell_far (p := ⟨gb390, _, none⟩) NB381_390.out _).trans (hHeld.2.2.2.1)))))))))), ((cell_far (p := ⟨gb390, _, none⟩) NB381_390.out _).trans (((cell_far (p := ⟨gb390, _, none⟩) NB381_390.out _).trans (((cell_far (p := ⟨gb390, _, none⟩) NB381_390.out _).trans (((cell_far (p := ⟨gb390, _, none⟩) NB381_390.out _).trans (((cell_far (p := ⟨gb390, _, none⟩) NB381_390.out _).trans (hHeld.2.2.2.2.1)))))))))), ((cell_far (p := ⟨gb390, _, none⟩) NB374_390.out _).trans (((cell_far (p := ⟨gb390, _, none⟩) NB374_390.out _).trans (((cell_far (p := ⟨gb390, _, none⟩) NB374_390.out _).trans (((cell_far (p := ⟨gb390, _, none⟩) NB374_390.out _).trans (((cell_far (p := ⟨gb390, _, none⟩) NB374_390.out _).trans (hHeld.2.2.2.2.2.1)))))))))), ((cell_far (p := ⟨gb390, _, none⟩) NB374_390.out _).trans (((cell_far (p := ⟨gb390, _, none⟩) NB374_390.out _).trans (((cell_far (p := ⟨gb390, _, none⟩) NB374_390.out _).trans (((cell_far (p := ⟨gb390, _, none⟩) NB374_390.out _).trans (((cell_far (p := ⟨gb390, _, none⟩) NB374_390.out _).trans (hHeld.2.2.2.2.2.2.1)))))))))), ((cell_far (p := ⟨gb390, _, none⟩) NB374_390.out _).trans (((cell_far (p := ⟨gb390, _, none⟩) NB374_390.out _).trans (((cell_far (p := ⟨gb390, _, none⟩) NB374_390.out _).trans (((cell_far (p := ⟨gb390, _, none⟩) NB374_390.out _).trans (((cell_far (p := ⟨gb390, _, none⟩) NB374_390.out _).trans (hHeld.2.2.2.2.2.2.2.1)))))))))), ((cell_far (p := ⟨gb390, _, none⟩) NB374_390.out _).trans (((cell_far (p := ⟨gb390, _, none⟩) NB374_390.out _).trans (((cell_far (p := ⟨gb390, _, none⟩) NB374_390.out _).trans (((cell_far (p := ⟨gb390, _, none⟩) NB374_390.out _).trans (((cell_far (p := ⟨gb390, _, none⟩) NB374_390.out _).trans (hHeld.2.2.2.2.2.2.2.2.1)))))))))), ((cell_far (p := ⟨gb390, _, none⟩) NB374_390.out _).trans (((cell_far (p := ⟨gb390, _, none⟩) NB374_390.out _).trans (((cell_far (p := ⟨gb390, _, none⟩) NB374_390.out _).trans (((cell_far (p := ⟨gb390, _, none⟩) NB374_390.out _).trans (((cell_far (p := ⟨gb390, _, none⟩) NB374_390.out _).trans (hHeld.2.2.2.2.2.2.2.2.2.1)))))))))), ((cell_far (p := ⟨gb390, _, none⟩) NB374_390.out _).trans (((cell_far (p := ⟨gb390, _, none⟩) NB374_390.out _).trans (((cell_far (p := ⟨gb390, _, none⟩) NB374_390.out _).trans (((cell_far (p := ⟨gb390, _, none⟩) NB374_390.out _).trans (((cell_far (p := ⟨gb390, _, none⟩) NB374_390.out _).trans (hHeld.2.2.2.2.2.2.2.2.2.2.1)))))))))), ((cell_far (p := ⟨gb390, _, none⟩) NB374_390.out _).trans (((cell_far (p := ⟨gb390, _, none⟩) NB374_390.out _).trans (((cell_far (p := ⟨gb390, _, none⟩) NB374_390.out _).trans (((cell_far (p := ⟨gb390, _, none⟩) NB374_390.out _).trans (((cell_far (p := ⟨gb390, _, none⟩) NB374_390.out _).trans (hHeld.2.2.2.2.2.2.2.2.2.2.2.1)))))))))), ((cell_far (p := ⟨gb390, _, none⟩) NB374_390.out _).trans (((cell_far (p := ⟨gb390, _, none⟩) NB374_390.out _).trans (((cell_far (p := ⟨gb390, _, none⟩) NB374_390.out _).trans (((cell_far (p := ⟨gb390, _, none⟩) NB374_390.out _).trans (((cell_far (p := ⟨gb390, _, none⟩) NB374_390.out _).trans (hHeld.2.2.2.2.2.2.2.2.2.2.2.2.1)))))))))), ((cell_far (p := ⟨gb390, _, none⟩) (by first | exact Nat.ne_of_lt (Nat.lt_of_lt_of_le (by have := World.block_lt_of_cell? _ _ hw383_0; first | rwa [add_block] at this | exact this) GW390.out) | (rw [add_block]; exact Nat.ne_of_lt (Nat.lt_of_lt_of_le (by have := World.block_lt_of_cell? _ _ hw383_0; first | rwa [add_block] at this | exact this) GW390.out)) | (show (Addr.add _ _).block ≠ _; rw [add_block]; exact Nat.ne_of_lt (Nat.lt_of_lt_of_le (by have := World.block_lt_of_cell? _ _ hw383_0; first | rwa [add_block] at this | exact this) GW390.out)) | (dsimp only; exact Nat.ne_of_lt (Nat.lt_of_lt_of_le (by have := World.block_lt_of_cell? _ _ hw383_0; first | rwa [add_block] at this | exact this) GW390.out))) _).trans (((cell_far (p := ⟨gb390, _, none⟩) (by first | exact Nat.ne_of_lt (Nat.lt_of_lt_of_le (by have := World.block_lt_of_cell? _ _ hw383_0; first | rwa [add_block] at this | exact this) GW390.out) | (rw [add_block]; exact Nat.ne_of_lt (Nat.lt_of_lt_of_le (by have := World.block_lt_of_cell? _ _ hw383_0; first | rwa [add_block] at this | exact this) GW390.out)) | (show (Addr.add _ _).block ≠ _; rw [add_block]; exact Nat.ne_of_lt (Nat.lt_of_lt_of_le (by have := World.block_lt_of_cell? _ _ hw383_0; first | rwa [add_block] at this | exact this) GW390.out)) | (dsimp only; exact Nat.ne_of_lt (Nat.lt_of_lt_of_le (by have := World.block_lt_of_cell? _ _ hw383_0; first | rwa [add_block] at this | exact this) GW390.out))) _).trans (((cell_far (p := ⟨gb390, _, none⟩) (by first | exact Nat.ne_of_lt (Nat.lt_of_lt_of_le (by have := World.block_lt_of_cell? _ _ hw383_0; first | rwa [add_block] at this | exact this) GW390.out) | (rw [add_block]; exact Nat.ne_of_lt (Nat.lt_of_lt_of_le (by have := World.block_lt_of_cell? _ _ hw383_0; first | rwa [add_block] at this | exact this) GW390.out)) | (show (Addr.add _ _).block ≠ _; rw [add_block]; exact Nat.ne_of_lt (Nat.lt_of_lt_of_le (by have := World.block_lt_of_cell? _ _ hw383_0; first | rwa [add_block] at this | exact this) GW390.out)) | (dsimp only; exact Nat.ne_of_lt (Nat.lt_of_lt_of_le (by have := World.block_lt_of_cell? _ _ hw383_0; first | rwa [add_block] at this | exact this) GW390.out))) _).trans (((cell_far (p := ⟨gb390, _, none⟩) (by first | exact Nat.ne_of_lt (Nat.lt_of_lt_of_le (by have := World.block_lt_of_cell? _ _ hw383_0; first | rwa [add_block] at this | exact this) GW390.out) | (rw [add_block]; exact Nat.ne_of_lt (Nat.lt_of_lt_of_le (by have := World.block_lt_of_cell? _ _ hw383_0; first | rwa [add_block] at this | exact this) GW390.out)) | (show (Addr.add _ _).block ≠ _; rw [add_block]; exact Nat.ne_of_lt (Nat.lt_of_lt_of_le (by have := World.block_lt_of_cell? _ _ hw383_0; first | rwa [add_block] at this | exact this) GW390.out)) | (dsimp only; exact Nat.ne_of_lt (Nat.lt_of_lt_of_le (by have := World.block_lt_of_cell? _ _ hw383_0; first | rwa [add_block] at this | exact this) GW390.out))) _).trans (((cell_far (p := ⟨gb390, _, none⟩) (by first | exact Nat.ne_of_lt (Nat.lt_of_lt_of_le (by have := World.block_lt_of_cell? _ _ hw383_0; first | rwa [add_block] at this | exact this) GW390.out) | (rw [add_block]; exact Nat.ne_of_lt (Nat.lt_of_lt_of_le (by have := World.block_lt_of_cell? _ _ hw383_0; first | rwa [add_block] at this | exact this) GW390.out)) | (show (Addr.add _ _).block ≠ _; rw [add_block]; exact Nat.ne_of_lt (Nat.lt_of_lt_of_le (by have := World.block_lt_of_cell? _ _ hw383_0; first | rwa [add_block] at this | exact this) GW390.out)) | (dsimp only; exact Nat.ne_of_lt (Nat.lt_of_lt_of_le (by have := World.block_lt_of_cell? _ _ hw383_0; first | rwa [add_block] at this | exact this) GW390.out))) _).trans (hHeld.2.2.2.2.2.2.2.2.2.2.2.2.2))))))))))⟩ (fun hHeld => ?_)
                          clear hK K
                          refine pure_ (i := 12) (N := some 8) (v := ?_) (a' := ?_) #[true, true, true, true, true, true, true, true, true, true, true, true, true] rfl rfl (any_of HT_.out (by kernel_rfl)) (fun _ _ _ h => h) (Or.inl ⟨by rfl, ?_⟩) ?_ ?_
                          rotate_left
                          · intro w'
                            go_simp
                            with_reducible rfl
                          rotate_left
                          · simp only [Act.put, List.setIfInBounds_toArray, List.set_cons_zero, List.set_cons_succ, i64_w, i32_w]
                            rfl
                          refine done_ (done_of HT_.out (by kernel_rfl)) ?_
                          have hnb40 := NB381_374.out
                          have hnc40 := NB374_381.out
                          have hnb41 := NB381_390.out
                          have hnc41 := NB390_381.out
                          have hcz42_0 : w34.cell? ⟨gb381, 0, none⟩ = some (.bool x382000_2) := (blk_cell BK381.out 0).trans rfl
                          have hcz42_1 : w34.cell? ⟨gb381, 1, none⟩ = some (.int .i64 x382001_2) := (blk_cell BK381.out 1).trans rfl
                          have hcz42_2 : w34.cell? ⟨gb381, 2, none⟩ = some (.int .i64 x382002_2) := (blk_cell BK381.out 2).trans rfl
                          have hcz42_3 : w34.cell? ⟨gb381, 3, none⟩ = some (.int .i64 x382003_2) := (blk_cell BK381.out 3).trans rfl
                          have hcz42_4 : w34.cell? ⟨gb381, 4, none⟩ = some (.int .i64 x382004_2) := (blk_cell BK381.out 4).trans rfl
                          have hfz42_0 := blk_frozen BK381.out 0
                          have hfz42_1 := blk_frozen BK381.out 1
                          have hfz42_2 := blk_frozen BK381.out 2
                          have hfz42_3 := blk_frozen BK381.out 3
                          have hfz42_4 := blk_frozen BK381.out 4
                          have hnb43 := NB374_390.out
                          have hnc43 := NB390_374.out
                          have hcz44_0 : w34.cell? ⟨gb374, 0, none⟩ = some (.bool a1_0) := (blk_cell BK374.out 0).trans rfl
                          have hcz44_1 : w34.cell? ⟨gb374, 1, none⟩ = some (.string a1_1) := (blk_cell BK374.out 1).trans rfl
                          have hcz44_2 : w34.cell? ⟨gb374, 2, none⟩ = some (.bool a1_2) := (blk_cell BK374.out 2).trans rfl
                          have hcz44_3 : w34.cell? ⟨gb374, 3, none⟩ = some (.int .i64 a1_3) := (blk_cell BK374.out 3).trans rfl
                          have hcz44_4 : w34.cell? ⟨gb374, 4, none⟩ = some (.int .i64 a1_4) := (blk_cell BK374.out 4).trans rfl
                          have hcz44_5 : w34.cell? ⟨gb374, 5, none⟩ = some (.int .i64 a1_5) := (blk_cell BK374.out 5).trans rfl
                          have hcz44_6 : w34.cell? ⟨gb374, 6, none⟩ = some (.int .i64 a1_6) := (blk_cell BK374.out 6).trans rfl
                          have hcz44_7 : w34.cell? ⟨gb374, 7, none⟩ = some (.int .i64 a1_7) := (blk_cell BK374.out 7).trans rfl
                          have hfz44_0 := blk_frozen BK374.out 0
                          have hfz44_1 := blk_frozen BK374.out 1
                          have hfz44_2 := blk_frozen BK374.out 2
                          have hfz44_3 := blk_frozen BK374.out 3
                          have hfz44_4 := blk_frozen BK374.out 4
                          have hfz44_5 := blk_frozen BK374.out 5
                          have hfz44_6 := blk_frozen BK374.out 6
                          have hfz44_7 := blk_frozen BK374.out 7
                          try go_wp2_with (first | ((with_reducible refine gate_callee (f := 45) rfl ?_); refine goesL_ (some 63) rfl rfl Try.func45 (by kernel_rfl) rfl #[.agg #[.bool true, .int .i64 0, .int .i64 1099511627776, .int .i64 0, .int .i64 x382004_2], .int .i64 0, .agg #[.bool false, .string (⟨#[]⟩ : ByteArray), .bool false, .int .i64 a1_3, .int .i64 1, .int .i64 0, .int .i64 0, .int .i64 0]] rfl (by (try simp only [List.map_toArray, List.map_cons, List.map_nil]); first | done | rfl | (simp only [List.length_drop, List.length_take]; rfl)) ?_; (with_reducible refine (regimenref31_Take.calls k2 true 0 1099511627776 0 x382004_2 0 false (⟨#[]⟩ : ByteArray) false a1_3 1 0 0 0 t391 t392 t393 t394 t395 t396 _ A25.out).mono ?_); rintro e w45 ⟨rfl, hb⟩; refine ⟨_, rfl, ?_⟩; have n0_ := Aside0.mk (blk_below (g := gb374) (o := .cells #[.bool a1_0, .string a1_1, .bool a1_2, .int .i64 a1_3, .int .i64 a1_4, .int .i64 a1_5, .int .i64 a1_6, .int .i64 a1_7] 75 (0, 0)) (by (with_reducible repeat (first | refine blk_drewN ?_ _ | refine blk_drew ?_ | refine blk_alloc ?_ _)); refine blk_far ?_ NB374_390.out _; (with_reducible repeat (first | refine blk_drewN ?_ _ | refine blk_drew ?_ | refine blk_alloc ?_ _)); refine blk_far ?_ NB374_390.out _; (with_reducible repeat (first | refine blk_drewN ?_ _ | refine blk_drew ?_ | refine blk_alloc ?_ _)); refine blk_far ?_ NB374_390.out _; (with_reducible repeat (first | refine blk_drewN ?_ _ | refine blk_drew ?_ | refine blk_alloc ?_ _)); refine blk_far ?_ NB374_390.out _; (with_reducible repeat (first | refine blk_drewN ?_ _ | refine blk_drew ?_ | refine blk_alloc ?_ _)); refine blk_far ?_ NB374_390.out _; (with_reducible repeat (first | refine blk_drewN ?_ _ | refine blk_drew ?_ | refine blk_alloc ?_ _)); exact BK374.out) hb); have n1_ := Aside0.mk (blk_below (g := gb381) (o := .cells #[.bool x382000_2, .int .i64 x382001_2, .int .i64 x382002_2, .int .i64 x382003_2, .int .i64 x382004_2] 73 (0, 0)) (by (with_reducible repeat (first | refine blk_drewN ?_ _ | refine blk_drew ?_ | refine blk_alloc ?_ _)); refine blk_far ?_ NB381_390.out _; (with_reducible repeat (first | refine blk_drewN ?_ _ | refine blk_drew ?_ | refine blk_alloc ?_ _)); refine blk_far ?_ NB381_390.out _; (with_reducible repeat (first | refine blk_drewN ?_ _ | refine blk_drew ?_ | refine blk_alloc ?_ _)); refine blk_far ?_ NB381_390.out _; (with_reducible repeat (first | refine blk_drewN ?_ _ | refine blk_drew ?_ | refine blk_alloc ?_ _)); refine blk_far ?_ NB381_390.out _; (with_reducible repeat (first | refine blk_drewN ?_ _ | refine blk_drew ?_ | refine blk_alloc ?_ _)); refine blk_far ?_ NB381_390.out _; (with_reducible repeat (first | refine blk_drewN ?_ _ | refine blk_drew ?_ | refine blk_alloc ?_ _)); exact BK381.out) hb); have n2_ := Aside0.mk (blk_below (g := gb390) (o := .cells #[.bool t384, .int .i64 t385, .int .i64 t386, .int .i64 t387, .int .i64 t388] 73 (0, 0)) (by (with_reducible repeat (first | refine blk_drewN ?_ _ | refine blk_drew ?_ | refine blk_alloc ?_ _)); refine blk_put (cs := #[.bool t384, .int .i64 t385, .int .i64 t386, .int .i64 t387, .int .i64 0]) ?_ 4 _ rfl; (with_reducible repeat (first | refine blk_drewN ?_ _ | refine blk_drew ?_ | refine blk_alloc ?_ _)); refine blk_put (cs := #[.bool t384, .int .i64 t385, .int .i64 t386, .int .i64 0, .int .i64 0]) ?_ 3 _ rfl; (with_reducible repeat (first | refine blk_drewN ?_ _ | refine blk_drew ?_ | refine blk_alloc ?_ _)); refine blk_put (cs := #[.bool t384, .int .i64 t385, .int .i64 0, .int .i64 0, .int .i64 0]) ?_ 2 _ rfl; (with_reducible repeat (first | refine blk_drewN ?_ _ | refine blk_drew ?_ | refine blk_alloc ?_ _)); refine blk_put (cs := #[.bool t384, .int .i64 0, .int .i64 0, .int .i64 0, .int .i64 0]) ?_ 1 _ rfl; (with_reducible repeat (first | refine blk_drewN ?_ _ | refine blk_drew ?_ | refine blk_alloc ?_ _)); refine blk_put (cs := #[.bool false, .int .i64 0, .int .i64 0, .int .i64 0, .int .i64 0]) ?_ 0 _ rfl; (with_reducible repeat (first | refine blk_drewN ?_ _ | refine blk_drew ?_ | refine blk_alloc ?_ _)); exact BK390.out) hb); have n3_ := Aside0.mk (below_step (by repeat (first | (with_reducible first | exact HB.out | apply below_alloc | apply pw_below_drewN | apply below_drew1 | refine below_set ?_ GE374.out | refine below_set ?_ GE381.out | refine below_set ?_ GE390.out) | exact HB.out)) hb); clear BK374; clear BK381; clear BK390; clear HB; have BK374 := n0_; have BK381 := n1_; have BK390 := n2_; have HB := n3_; clear n0_ n1_ n2_ n3_; (try clear hb); (try clear hb2); (try clear hk); (try clear hi)) | ((with_reducible refine gate_dst (N := 9) rfl ?_); refine box_event ?hg (N := 9) ?hd (cs := #[.bool false, .int .i64 0, .int .i64 0, .int .i64 0, .int .i64 0]) (t := 73) ?hr ?_; (case hd => rfl); (case hg => rfl); (case hr => first | (go_simp; done) | (go_simp; rfl)); intro gb397 hg w46 hbox hb; have n0_ := Aside0.mk (blk_below (g := gb374) (o := .cells #[.bool a1_0, .string a1_1, .bool a1_2, .int .i64 a1_3, .int .i64 a1_4, .int .i64 a1_5, .int .i64 a1_6, .int .i64 a1_7] 75 (0, 0)) (by (with_reducible repeat (first | refine blk_drewN ?_ _ | refine blk_drew ?_ | refine blk_alloc ?_ _)); exact BK374.out) hb); have n1_ := Aside0.mk (blk_below (g := gb381) (o := .cells #[.bool x382000_2, .int .i64 x382001_2, .int .i64 x382002_2, .int .i64 x382003_2, .int .i64 x382004_2] 73 (0, 0)) (by (with_reducible repeat (first | refine blk_drewN ?_ _ | refine blk_drew ?_ | refine blk_alloc ?_ _)); exact BK381.out) hb); have n2_ := Aside0.mk (blk_below (g := gb390) (o := .cells #[.bool t384, .int .i64 t385, .int .i64 t386, .int .i64 t387, .int .i64 t388] 73 (0, 0)) (by (with_reducible repeat (first | refine blk_drewN ?_ _ | refine blk_drew ?_ | refine blk_alloc ?_ _)); exact BK390.out) hb); have n3_ := Aside0.mk (below_step (by repeat (first | (with_reducible first | exact HB.out | apply below_alloc | apply pw_below_drewN | apply below_drew1 | refine below_set ?_ GE374.out | refine below_set ?_ GE381.out | refine below_set ?_ GE390.out) | exact HB.out)) hb); have n4_ := Aside0.mk (hbox); have n5_ := Aside0.mk ((by rw [hg]; exact (below_size (by repeat (first | (with_reducible first | exact HB.out | apply below_alloc | apply pw_below_drewN | apply below_drew1 | refine below_set ?_ GE374.out | refine below_set ?_ GE381.out | refine below_set ?_ GE390.out) | exact HB.out))) : w.heap.size ≤ gb397)); have n6_ := Aside0.mk ((by rw [hg]; exact (below_size (by repeat (first | (with_reducible first | exact HB.out | apply below_alloc | apply pw_below_drewN | apply below_drew1 | refine below_set ?_ GE374.out | refine below_set ?_ GE381.out | refine below_set ?_ GE390.out) | exact HB.out))) : w.heap.size ≤ gb397)); have n7_ := Aside0.mk ((by rw [hg]; exact Nat.ne_of_lt (blk_lt (g := gb374) (o := .cells #[.bool a1_0, .string a1_1, .bool a1_2, .int .i64 a1_3, .int .i64 a1_4, .int .i64 a1_5, .int .i64 a1_6, .int .i64 a1_7] 75 (0, 0)) (by (with_reducible repeat (first | refine blk_drewN ?_ _ | refine blk_drew ?_ | refine blk_alloc ?_ _)); exact BK374.out)) : gb374 ≠ gb397)); have n8_ := Aside0.mk ((by rw [hg]; exact Nat.ne_of_gt (blk_lt (g := gb374) (o := .cells #[.bool a1_0, .string a1_1, .bool a1_2, .int .i64 a1_3, .int .i64 a1_4, .int .i64 a1_5, .int .i64 a1_6, .int .i64 a1_7] 75 (0, 0)) (by (with_reducible repeat (first | refine blk_drewN ?_ _ | refine blk_drew ?_ | refine blk_alloc ?_ _)); exact BK374.out)) : gb397 ≠ gb374)); have n9_ := Aside0.mk ((by rw [hg]; exact Nat.ne_of_lt (blk_lt (g := gb381) (o := .cells #[.bool x382000_2, .int .i64 x382001_2, .int .i64 x382002_2, .int .i64 x382003_2, .int .i64 x382004_2] 73 (0, 0)) (by (with_reducible repeat (first | refine blk_drewN ?_ _ | refine blk_drew ?_ | refine blk_alloc ?_ _)); exact BK381.out)) : gb381 ≠ gb397)); have n10_ := Aside0.mk ((by rw [hg]; exact Nat.ne_of_gt (blk_lt (g := gb381) (o := .cells #[.bool x382000_2, .int .i64 x382001_2, .int .i64 x382002_2, .int .i64 x382003_2, .int .i64 x382004_2] 73 (0, 0)) (by (with_reducible repeat (first | refine blk_drewN ?_ _ | refine blk_drew ?_ | refine blk_alloc ?_ _)); exact BK381.out)) : gb397 ≠ gb381)); have n11_ := Aside0.mk ((by rw [hg]; exact Nat.ne_of_lt (blk_lt (g := gb390) (o := .cells #[.bool t384, .int .i64 t385, .int .i64 t386, .int .i64 t387, .int .i64 t388] 73 (0, 0)) (by (with_reducible repeat (first | refine blk_drewN ?_ _ | refine blk_drew ?_ | refine blk_alloc ?_ _)); exact BK390.out)) : gb390 ≠ gb397)); have n12_ := Aside0.mk ((by rw [hg]; exact Nat.ne_of_gt (blk_lt (g := gb390) (o := .cells #[.bool t384, .int .i64 t385, .int .i64 t386, .int .i64 t387, .int .i64 t388] 73 (0, 0)) (by (with_reducible repeat (first | refine blk_drewN ?_ _ | refine blk_drew ?_ | refine blk_alloc ?_ _)); exact BK390.out)) : gb397 ≠ gb390)); clear BK374; clear BK381; clear BK390; clear HB; have BK374 := n0_; have BK381 := n1_; have BK390 := n2_; have HB := n3_; have BK397 := n4_; have GW397 := n5_; have GE397 := n6_; have NB374_397 := n7_; have NB397_374 := n8_; have NB381_397 := n9_; have NB397_381 := n10_; have NB390_397 := n11_; have NB397_390 := n12_; clear n0_ n1_ n2_ n3_ n4_ n5_ n6_ n7_ n8_ n9_ n10_ n11_ n12_; clear hb hbox hg; have hnb47 := NB397_374.out; have hnc47 := NB374_397.out; have hnb48 := NB397_381.out; have hnc48 := NB381_397.out; have hnb49 := NB397_390.out; have hnc49 := NB390_397.out; have hcz50_0 : w46.cell? ⟨gb397, 0, none⟩ = some (.bool false) := (blk_cell BK397.out 0).trans rfl; have hcz50_1 : w46.cell? ⟨gb397, 1, none⟩ = some (.int .i64 0) := (blk_cell BK397.out 1).trans rfl; have hcz50_2 : w46.cell? ⟨gb397, 2, none⟩ = some (.int .i64 0) := (blk_cell BK397.out 2).trans rfl; have hcz50_3 : w46.cell? ⟨gb397, 3, none⟩ = some (.int .i64 0) := (blk_cell BK397.out 3).trans rfl; have hcz50_4 : w46.cell? ⟨gb397, 4, none⟩ = some (.int .i64 0) := (blk_cell BK397.out 4).trans rfl; have hfz50_0 := blk_frozen BK397.out 0; have hfz50_1 := blk_frozen BK397.out 1; have hfz50_2 := blk_frozen BK397.out 2; have hfz50_3 := blk_frozen BK397.out 3; have hfz50_4 := blk_frozen BK397.out 4; have hcz51_0 : w46.cell? ⟨gb390, 0, none⟩ = some (.bool t384) := (blk_cell BK390.out 0).trans rfl; have hcz51_1 : w46.cell? ⟨gb390, 1, none⟩ = some (.int .i64 t385) := (blk_cell BK390.out 1).trans rfl; have hcz51_2 : w46.cell? ⟨gb390, 2, none⟩ = some (.int .i64 t386) := (blk_cell BK390.out 2).trans rfl; have hcz51_3 : w46.cell? ⟨gb390, 3, none⟩ = some (.int .i64 t387) := (blk_cell BK390.out 3).trans rfl; have hcz51_4 : w46.cell? ⟨gb390, 4, none⟩ = some (.int .i64 t388) := (blk_cell BK390.out 4).trans rfl; have hfz51_0 := blk_frozen BK390.out 0; have hfz51_1 := blk_frozen BK390.out 1; have hfz51_2 := blk_frozen BK390.out 2; have hfz51_3 := blk_frozen BK390.out 3; have hfz51_4 := blk_frozen BK390.out 4) | ((with_reducible refine gate_callee (f := 46) rfl ?_); refine goesL_ (some 67) rfl rfl Try.func46 (by kernel_rfl) rfl #[.agg #[.bool t384, .int .i64 t385, .int .i64 t386, .int .i64 t387, .int .i64 t388]] rfl (by (try simp only [List.map_toArray, List.map_cons, List.map_nil]); first | done | rfl | (simp only [List.length_drop, List.length_take]; rfl)) ?_; (with_reducible refine (plat_Check.calls k2 t384 t385 t386 t387 t388 true _ A26.out).mono ?_); rintro e w52 ⟨rfl, hb⟩; refine ⟨_, rfl, ?_⟩; have n0_ := Aside0.mk (blk_below (g := gb374) (o := .cells #[.bool a1_0, .string a1_1, .bool a1_2, .int .i64 a1_3, .int .i64 a1_4, .int .i64 a1_5, .int .i64 a1_6, .int .i64 a1_7] 75 (0, 0)) (by (with_reducible repeat (first | refine blk_drewN ?_ _ | refine blk_drew ?_ | refine blk_alloc ?_ _)); refine blk_far ?_ NB374_397.out _; (with_reducible repeat (first | refine blk_drewN ?_ _ | refine blk_drew ?_ | refine blk_alloc ?_ _)); refine blk_far ?_ NB374_397.out _; (with_reducible repeat (first | refine blk_drewN ?_ _ | refine blk_drew ?_ | refine blk_alloc ?_ _)); refine blk_far ?_ NB374_397.out _; (with_reducible repeat (first | refine blk_drewN ?_ _ | refine blk_drew ?_ | refine blk_alloc ?_ _)); refine blk_far ?_ NB374_397.out _; (with_reducible repeat (first | refine blk_drewN ?_ _ | refine blk_drew ?_ | refine blk_alloc ?_ _)); refine blk_far ?_ NB374_397.out _; (with_reducible repeat (first | refine blk_drewN ?_ _ | refine blk_drew ?_ | refine blk_alloc ?_ _)); exact BK374.out) hb); have n1_ := Aside0.mk (blk_below (g := gb381) (o := .cells #[.bool x382000_2, .int .i64 x382001_2, .int .i64 x382002_2, .int .i64 x382003_2, .int .i64 x382004_2] 73 (0, 0)) (by (with_reducible repeat (first | refine blk_drewN ?_ _ | refine blk_drew ?_ | refine blk_alloc ?_ _)); refine blk_far ?_ NB381_397.out _; (with_reducible repeat (first | refine blk_drewN ?_ _ | refine blk_drew ?_ | refine blk_alloc ?_ _)); refine blk_far ?_ NB381_397.out _; (with_reducible repeat (first | refine blk_drewN ?_ _ | refine blk_drew ?_ | refine blk_alloc ?_ _)); refine blk_far ?_ NB381_397.out _; (with_reducible repeat (first | refine blk_drewN ?_ _ | refine blk_drew ?_ | refine blk_alloc ?_ _)); refine blk_far ?_ NB381_397.out _; (with_reducible repeat (first | refine blk_drewN ?_ _ | refine blk_drew ?_ | refine blk_alloc ?_ _)); refine blk_far ?_ NB381_397.out _; (with_reducible repeat (first | refine blk_drewN ?_ _ | refine blk_drew ?_ | refine blk_alloc ?_ _)); exact BK381.out) hb); have n2_ := Aside0.mk (blk_below (g := gb390) (o := .cells #[.bool t384, .int .i64 t385, .int .i64 t386, .int .i64 t387, .int .i64 t388] 73 (0, 0)) (by (with_reducible repeat (first | refine blk_drewN ?_ _ | refine blk_drew ?_ | refine blk_alloc ?_ _)); refine blk_far ?_ NB390_397.out _; (with_reducible repeat (first | refine blk_drewN ?_ _ | refine blk_drew ?_ | refine blk_alloc ?_ _)); refine blk_far ?_ NB390_397.out _; (with_reducible repeat (first | refine blk_drewN ?_ _ | refine blk_drew ?_ | refine blk_alloc ?_ _)); refine blk_far ?_ NB390_397.out _; (with_reducible repeat (first | refine blk_drewN ?_ _ | refine blk_drew ?_ | refine blk_alloc ?_ _)); refine blk_far ?_ NB390_397.out _; (with_reducible repeat (first | refine blk_drewN ?_ _ | refine blk_drew ?_ | refine blk_alloc ?_ _)); refine blk_far ?_ NB390_397.out _; (with_reducible repeat (first | refine blk_drewN ?_ _ | refine blk_drew ?_ | refine blk_alloc ?_ _)); exact BK390.out) hb); have n3_ := Aside0.mk (blk_below (g := gb397) (o := .cells #[.bool t391, .int .i64 t392, .int .i64 t393, .int .i64 t394, .int .i64 t395] 73 (0, 0)) (by (with_reducible repeat (first | refine blk_drewN ?_ _ | refine blk_drew ?_ | refine blk_alloc ?_ _)); refine blk_put (cs := #[.bool t391, .int .i64 t392, .int .i64 t393, .int .i64 t394, .int .i64 0]) ?_ 4 _ rfl; (with_reducible repeat (first | refine blk_drewN ?_ _ | refine blk_drew ?_ | refine blk_alloc ?_ _)); refine blk_put (cs := #[.bool t391, .int .i64 t392, .int .i64 t393, .int .i64 0, .int .i64 0]) ?_ 3 _ rfl; (with_reducible repeat (first | refine blk_drewN ?_ _ | refine blk_drew ?_ | refine blk_alloc ?_ _)); refine blk_put (cs := #[.bool t391, .int .i64 t392, .int .i64 0, .int .i64 0, .int .i64 0]) ?_ 2 _ rfl; (with_reducible repeat (first | refine blk_drewN ?_ _ | refine blk_drew ?_ | refine blk_alloc ?_ _)); refine blk_put (cs := #[.bool t391, .int .i64 0, .int .i64 0, .int .i64 0, .int .i64 0]) ?_ 1 _ rfl; (with_reducible repeat (first | refine blk_drewN ?_ _ | refine blk_drew ?_ | refine blk_alloc ?_ _)); refine blk_put (cs := #[.bool false, .int .i64 0, .int .i64 0, .int .i64 0, .int .i64 0]) ?_ 0 _ rfl; (with_reducible repeat (first | refine blk_drewN ?_ _ | refine blk_drew ?_ | refine blk_alloc ?_ _)); exact BK397.out) hb); have n4_ := Aside0.mk (below_step (by repeat (first | (with_reducible first | exact HB.out | apply below_alloc | apply pw_below_drewN | apply below_drew1 | refine below_set ?_ GE374.out | refine below_set ?_ GE381.out | refine below_set ?_ GE390.out | refine below_set ?_ GE397.out) | exact HB.out)) hb); clear BK374; clear BK381; clear BK390; clear BK397; clear HB; have BK374 := n0_; have BK381 := n1_; have BK390 := n2_; have BK397 := n3_; have HB := n4_; clear n0_ n1_ n2_ n3_ n4_; (try clear hb); (try clear hb2); (try clear hk); (try clear hi); have hcz53_0 : w52.cell? ⟨gb390, 0, none⟩ = some (.bool t384) := (blk_cell BK390.out 0).trans rfl; have hcz53_1 : w52.cell? ⟨gb390, 1, none⟩ = some (.int .i64 t385) := (blk_cell BK390.out 1).trans rfl; have hcz53_2 : w52.cell? ⟨gb390, 2, none⟩ = some (.int .i64 t386) := (blk_cell BK390.out 2).trans rfl; have hcz53_3 : w52.cell? ⟨gb390, 3, none⟩ = some (.int .i64 t387) := (blk_cell BK390.out 3).trans rfl; have hcz53_4 : w52.cell? ⟨gb390, 4, none⟩ = some (.int .i64 t388) := (blk_cell BK390.out 4).trans rfl; have hfz53_0 := blk_frozen BK390.out 0; have hfz53_1 := blk_frozen BK390.out 1; have hfz53_2 := blk_frozen BK390.out 2; have hfz53_3 := blk_frozen BK390.out 3; have hfz53_4 := blk_frozen BK390.out 4; have hcz54_0 : w52.cell? ⟨gb381, 0, none⟩ = some (.bool x382000_2) := (blk_cell BK381.out 0).trans rfl; have hcz54_1 : w52.cell? ⟨gb381, 1, none⟩ = some (.int .i64 x382001_2) := (blk_cell BK381.out 1).trans rfl; have hcz54_2 : w52.cell? ⟨gb381, 2, none⟩ = some (.int .i64 x382002_2) := (blk_cell BK381.out 2).trans rfl; have hcz54_3 : w52.cell? ⟨gb381, 3, none⟩ = some (.int .i64 x382003_2) := (blk_cell BK381.out 3).trans rfl; have hcz54_4 : w52.cell? ⟨gb381, 4, none⟩ = some (.int .i64 x382004_2) := (blk_cell BK381.out 4).trans rfl; have hfz54_0 := blk_frozen BK381.out 0; have hfz54_1 := blk_frozen BK381.out 1; have hfz54_2 := blk_frozen BK381.out 2; have hfz54_3 := blk_frozen BK381.out 3; have hfz54_4 := blk_frozen BK381.out 4; have hcz55_0 : w52.cell? ⟨gb397, 0, none⟩ = some (.bool t391) := (blk_cell BK397.out 0).trans rfl; have hcz55_1 : w52.cell? ⟨gb397, 1, none⟩ = some (.int .i64 t392) := (blk_cell BK397.out 1).trans rfl; have hcz55_2 : w52.cell? ⟨gb397, 2, none⟩ = some (.int .i64 t393) := (blk_cell BK397.out 2).trans rfl; have hcz55_3 : w52.cell? ⟨gb397, 3, none⟩ = some (.int .i64 t394) := (blk_cell BK397.out 3).trans rfl; have hcz55_4 : w52.cell? ⟨gb397, 4, none⟩ = some (.int .i64 t395) := (blk_cell BK397.out 4).trans rfl; have hfz55_0 := blk_frozen BK397.out 0; have hfz55_1 := blk_frozen BK397.out 1; have hfz55_2 := blk_frozen BK397.out 2; have hfz55_3 := blk_frozen BK397.out 3; have hfz55_4 := blk_frozen BK397.out 4))
                          go_roundg k2
                          case measure => have := HJ2.out; have := HK2.out; omega
                          case rel => exact ⟨(wrap64 (x6_2 + 1)), (t384), (t385), (t386), (t387), (t388), (by first | rfl | (simp; done) | (simp [*]; done)), H', ⟨by have := HJ2.out; have := HK2.out; omega⟩, ⟨by (with_reducible repeat (first | refine blk_drewN ?_ _ | refine blk_drew ?_ | refine blk_alloc ?_ _)); refine blk_far ?_ NB374_381.out _; (with_reducible repeat (first | refine blk_drewN ?_ _ | refine blk_drew ?_ | refine blk_alloc ?_ _)); refine blk_far ?_ NB374_381.out _; (with_reducible repeat (first | refine blk_drewN ?_ _ | refine blk_drew ?_ | refine blk_alloc ?_ _)); refine blk_far ?_ NB374_381.out _; (with_reducible repeat (first | refine blk_drewN ?_ _ | refine blk_drew ?_ | refine blk_alloc ?_ _)); refine blk_far ?_ NB374_381.out _; (with_reducible repeat (first | refine blk_drewN ?_ _ | refine blk_drew ?_ | refine blk_alloc ?_ _)); refine blk_far ?_ NB374_381.out _; (with_reducible repeat (first | refine blk_drewN ?_ _ | refine blk_drew ?_ | refine blk_alloc ?_ _)); exact BK374.out⟩, ⟨by (with_reducible repeat (first | refine blk_drewN ?_ _ | refine blk_drew ?_ | refine blk_alloc ?_ _)); refine blk_put (cs := #[.bool t384, .int .i64 t385, .int .i64 t386, .int .i64 t387, .int .i64 x382004_2]) ?_ 4 _ rfl; (with_reducible repeat (first | refine blk_drewN ?_ _ | refine blk_drew ?_ | refine blk_alloc ?_ _)); refine blk_put (cs := #[.bool t384, .int .i64 t385, .int .i64 t386, .int .i64 x382003_2, .int .i64 x382004_2]) ?_ 3 _ rfl; (with_reducible repeat (first | refine blk_drewN ?_ _ | refine blk_drew ?_ | refine blk_alloc ?_ _)); refine blk_put (cs := #[.bool t384, .int .i64 t385, .int .i64 x382002_2, .int .i64 x382003_2, .int .i64 x382004_2]) ?_ 2 _ rfl; (with_reducible repeat (first | refine blk_drewN ?_ _ | refine blk_drew ?_ | refine blk_alloc ?_ _)); refine blk_put (cs := #[.bool t384, .int .i64 x382001_2, .int .i64 x382002_2, .int .i64 x382003_2, .int .i64 x382004_2]) ?_ 1 _ rfl; (with_reducible repeat (first | refine blk_drewN ?_ _ | refine blk_drew ?_ | refine blk_alloc ?_ _)); refine blk_put (cs := #[.bool x382000_2, .int .i64 x382001_2, .int .i64 x382002_2, .int .i64 x382003_2, .int .i64 x382004_2]) ?_ 0 _ rfl; (with_reducible repeat (first | refine blk_drewN ?_ _ | refine blk_drew ?_ | refine blk_alloc ?_ _)); exact BK381.out⟩, ⟨by repeat (first | (with_reducible first | exact HB.out | apply below_alloc | apply pw_below_drewN | apply below_drew1 | refine below_set ?_ GE374.out | refine below_set ?_ GE381.out | refine below_set ?_ GE390.out | refine below_set ?_ GE397.out) | exact HB.out)⟩⟩
                        · rw [if_neg c30] at H
                          exact absurd H (by simp)
                      · replace c29 := Bool.eq_false_iff.mpr c29
                        subst c29
                        have H1 : (if t388 = x382004_2 then (regimenlaw31_PlatFalls.l0 k2 l0 (wrap64 (x6_2 + 1)) a1_0 a1_1 a1_2 a1_3 a1_4 a1_5 a1_6 a1_7 t384 t385 t386 t387 t388) else (none)) = some r := by rw [if_neg (show ¬ (false = true) by decide)] at H; exact H
                        clear H
                        have H := H1
                        clear H1
                        by_cases c56 : t388 = x382004_2
                        · rw [if_pos c56] at H
                          have c56b0 : (t388 == x382004_2) = true := beq_iff_eq.mpr c56
                          have c56b1 : (t388 != x382004_2) = false := bne_eq_false_iff_eq.mpr c56
                          clear c56
                          (try (have c56_c17b0 := c17b0; simp only [c56b0, Bool.true_and, Bool.and_true, Bool.false_or, Bool.or_false, Bool.not_true, Bool.not_false] at c56_c17b0))
                          have H' := Aside0.mk H
                          clear H
                          try go_wp2
                          have n0_ := Aside0.mk (blk_drew BK374.out)
                          have n1_ := Aside0.mk (blk_drew BK381.out)
                          have n2_ := Aside0.mk (below_drew1 HB.out)
                          clear BK374
                          clear BK381
                          clear HB
                          have BK374 := n0_
                          have BK381 := n1_
                          have HB := n2_
                          clear n0_ n1_ n2_
                          have p383 : 0 ≤ (x6_2 : Int) := of_decide_eq_true (by first | (with_reducible assumption) | assumption)
                          have q383 : x6_2 < (l0.length : Int) := of_decide_eq_true (by first | (with_reducible assumption) | assumption)
                          obtain ⟨ad383, e383, hx383_0⟩ := Kd.at_int HR0.out x6_2 p383 q383
                          have hw383_0 := hx383_0
                          cases e383
                          replace hx383_0 := (HB.out.cell (World.block_lt_of_cell? w _ hx383_0)).trans hx383_0
                          replace p383 := eq_true p383
                          replace q383 := eq_true q383
                          refine start_ (n := 13) (S := fun w' => w'.cell? ⟨gb381, 0, none⟩ = some (.bool x382000_2) ∧ w'.cell? ⟨gb381, 1, none⟩ = some (.int .i64 x382001_2) ∧ w'.cell? ⟨gb381, 2, none⟩ = some (.int .i64 x382002_2) ∧ w'.cell? ⟨gb381, 3, none⟩ = some (.int .i64 x382003_2) ∧ w'.cell? ⟨gb381, 4, none⟩ = some (.int .i64 x382004_2) ∧ w'.cell? ⟨gb374, 0, none⟩ = some (.bool a1_0) ∧ w'.cell? ⟨gb374, 1, none⟩ = some (.string a1_1) ∧ w'.cell? ⟨gb374, 2, none⟩ = some (.bool a1_2) ∧ w'.cell? ⟨gb374, 3, none⟩ = some (.int .i64 a1_3) ∧ w'.cell? ⟨gb374, 4, none⟩ = some (.int .i64 a1_4) ∧ w'.cell? ⟨gb374, 5, none⟩ = some (.int .i64 a1_5) ∧ w'.cell? ⟨gb374, 6, none⟩ = some (.int .i64 a1_6) ∧ w'.cell? ⟨gb374, 7, none⟩ = some (.int .i64 a1_7) ∧ w'.cell? (ad383.add (x6_2).toNat) = some (.int .i64 (rd l0 x6_2))) (ds := []) #[false, false, false, false, false, false, false, false, false, false, false, false, false] (by kernel_rfl) rfl rfl ⟨(blk_cell BK381.out 0).trans rfl, (blk_cell BK381.out 1).trans rfl, (blk_cell BK381.out 2).trans rfl, (blk_cell BK381.out 3).trans rfl, (blk_cell BK381.out 4).trans rfl, (blk_cell BK374.out 0).trans rfl, (blk_cell BK374.out 1).trans rfl, (blk_cell BK374.out 2).trans rfl, (blk_cell BK374.out 3).trans rfl, (blk_cell BK374.out 4).trans rfl, (blk_cell BK374.out 5).trans rfl, (blk_cell BK374.out 6).trans rfl, (blk_cell BK374.out 7).trans rfl, ((HB.out.cell (World.block_lt_of_cell? w _ hw383_0)).trans hw383_0)⟩ (fun hHeld => ?_); refine with_tabW regimenlaw31_PlatFalls.tab9 regimenlaw31_PlatFalls.bits9 (fun HT_ HW_ => ?_)
                          generalize wr.drew = w57 at BK374 BK381 HB hx383_0 hHeld ⊢
                          refine pure_ (i := 1) (N := some 47) (v := ?_) (a' := ?_) #[false, true, false, false, false, false, false, false, false, false, false, false, false] rfl rfl (any_of HT_.out (by kernel_rfl)) (fun _ _ _ h => h) (Or.inl ⟨by rfl, ?_⟩) ?_ ?_
                          rotate_left
                          · intro w'
                            go_simp
                            with_reducible rfl
                          rotate_left
                          · simp only [Act.put, List.setIfInBounds_toArray, List.set_cons_zero, List.set_cons_succ, i64_w, i32_w]
                            rfl
                          refine pure_ (i := 2) (N := some 48) (v := ?_) (a' := ?_) #[false, true, true, false, false, false, false, false, false, false, false, false, false] rfl rfl (any_of HT_.out (by kernel_rfl)) (fun _ _ _ h => h) (Or.inl ⟨by rfl, ?_⟩) ?_ ?_
                          rotate_left
                          · intro w'
                            go_simp
                            with_reducible rfl
                          rotate_left
                          · simp only [Act.put, List.setIfInBounds_toArray, List.set_cons_zero, List.set_cons_succ, i64_w, i32_w]
                            rfl
                          refine pure_ (i := 3) (N := some 49) (v := ?_) (a' := ?_) #[false, true, true, true, false, false, false, false, false, false, false, false, false] rfl rfl (any_of HT_.out (by kernel_rfl)) (fun _ _ _ h => h) (Or.inl ⟨by rfl, ?_⟩) ?_ ?_
                          rotate_left
                          · intro w'
                            go_simp
                            with_reducible rfl
                          rotate_left
                          · simp only [Act.put, List.setIfInBounds_toArray, List.set_cons_zero, List.set_cons_succ, i64_w, i32_w]
                            rfl
                          refine take_ (i := 0) (N := some 46) (v := ?_) (a' := ?_) #[true, true, true, true, false, false, false, false, false, false, false, false, false] rfl rfl (take_ofW HT_.out HW_.out (by kernel_rfl)) (fun _ _ _ h => h) (Or.inl ⟨by rfl, ?_⟩) hHeld ?_ ?_
                          rotate_left
                          · rintro w' ⟨s0, s1, s2, s3, s4, s5, s6, s7, s8, s9, s10, s11, s12, s13⟩
                            go_simp
                            with_reducible rfl
                          rotate_left
                          · simp only [Act.put, List.setIfInBounds_toArray, List.set_cons_zero, List.set_cons_succ, i64_w, i32_w]
                            rfl
                          refine take_ (i := 4) (N := some 50) (v := ?_) (a' := ?_) #[true, true, true, true, true, false, false, false, false, false, false, false, false] rfl rfl (take_ofW HT_.out HW_.out (by kernel_rfl)) (fun _ _ _ h => h) (Or.inl ⟨by rfl, ?_⟩) hHeld ?_ ?_
                          rotate_left
                          · rintro w' ⟨s0, s1, s2, s3, s4, s5, s6, s7, s8, s9, s10, s11, s12, s13⟩
                            go_simp
                            with_reducible rfl
                          rotate_left
                          · simp only [Act.put, List.setIfInBounds_toArray, List.set_cons_zero, List.set_cons_succ, i64_w, i32_w]
                            rfl
                          refine take_ (i := 5) (N := some 51) (v := ?_) (a' := ?_) #[true, true, true, true, true, true, false, false, false, false, false, false, false] rfl rfl (take_ofW HT_.out HW_.out (by kernel_rfl)) (fun _ _ _ h => h) (Or.inl ⟨by rfl, ?_⟩) hHeld ?_ ?_
                          rotate_left
                          · rintro w' ⟨s0, s1, s2, s3, s4, s5, s6, s7, s8, s9, s10, s11, s12, s13⟩
                            go_simp
                            with_reducible rfl
                          rotate_left
                          · simp only [Act.put, List.setIfInBounds_toArray, List.set_cons_zero, List.set_cons_succ, i64_w, i32_w]
                            rfl
                          refine join_ (σ := Nat) 2 #[true, true, true, true, true, true, true, true, true, true, true, false, false] (fun s_ => [(52, .tuple #[.agg #[.bool t384, .int .i64 t385, .int .i64 t386, .int .i64 t387, .int .i64 t388], .bool false]), (7, .pointer (some ⟨s_, 0, none⟩)), (45, .tuple #[.agg #[.bool t384, .int .i64 t385, .int .i64 t386, .int .i64 t387, .int .i64 t388], .bool false]), (53, .agg #[.bool t384, .int .i64 t385, .int .i64 t386, .int .i64 t387, .int .i64 t388]), (54, .bool false)]) (fun s_ w' => (w'.cell? ⟨gb381, 0, none⟩ = some (.bool x382000_2) ∧ w'.cell? ⟨gb381, 1, none⟩ = some (.int .i64 x382001_2) ∧ w'.cell? ⟨gb381, 2, none⟩ = some (.int .i64 x382002_2) ∧ w'.cell? ⟨gb381, 3, none⟩ = some (.int .i64 x382003_2) ∧ w'.cell? ⟨gb381, 4, none⟩ = some (.int .i64 x382004_2) ∧ w'.cell? ⟨gb374, 0, none⟩ = some (.bool a1_0) ∧ w'.cell? ⟨gb374, 1, none⟩ = some (.string a1_1) ∧ w'.cell? ⟨gb374, 2, none⟩ = some (.bool a1_2) ∧ w'.cell? ⟨gb374, 3, none⟩ = some (.int .i64 a1_3) ∧ w'.cell? ⟨gb374, 4, none⟩ = some (.int .i64 a1_4) ∧ w'.cell? ⟨gb374, 5, none⟩ = some (.int .i64 a1_5) ∧ w'.cell? ⟨gb374, 6, none⟩ = some (.int .i64 a1_6) ∧ w'.cell? ⟨gb374, 7, none⟩ = some (.int .i64 a1_7) ∧ w'.cell? (ad383.add (x6_2).toNat) = some (.int .i64 (rd l0 x6_2))) ∧ (w'.heap[gb374]? = some (.cells #[.bool a1_0, .string a1_1, .bool a1_2, .int .i64 a1_3, .int .i64 a1_4, .int .i64 a1_5, .int .i64 a1_6, .int .i64 a1_7] 75 (0, 0))) ∧ (w'.heap[gb381]? = some (.cells #[.bool x382000_2, .int .i64 x382001_2, .int .i64 x382002_2, .int .i64 x382003_2, .int .i64 x382004_2] 73 (0, 0))) ∧ (w'.heap[s_]? = some (.cells #[.bool false, .int .i64 0, .int .i64 0, .int .i64 0, .int .i64 0] 73 (0, 0))) ∧ (w.heap.size ≤ s_) ∧ (w.heap.size ≤ s_) ∧ (gb374 ≠ s_) ∧ (s_ ≠ gb374) ∧ (gb381 ≠ s_) ∧ (s_ ≠ gb381) ∧ (Below w.heap.size w w')) ?_ ?_
                          rotate_left
                          · intro hCont
                            refine two_ (i := 6) (j := 10) (Ni := some 52) (Nj := some 7) #[true, true, true, true, true, true, true, false, false, false, false, false, false] #[true, true, true, true, true, true, false, false, false, false, true, false, false] rfl rfl rfl rfl (two_of HT_.out (by kernel_rfl)) (by decide) (by decide) (fun K hK => ?_) (fun K hK => ?_)
                            · skip
                              refine goes_ Try.func44 (by kernel_rfl) rfl #[.agg #[.bool x382000_2, .int .i64 x382001_2, .int .i64 x382002_2, .int .i64 x382003_2, .int .i64 x382004_2], .int .i64 (rd l0 x6_2), .agg #[.bool a1_0, .string a1_1, .bool a1_2, .int .i64 a1_3, .int .i64 a1_4, .int .i64 a1_5, .int .i64 a1_6, .int .i64 a1_7]] (by rfl) rfl rfl (by (try simp only [List.map_toArray, List.map_cons, List.map_nil]); first | done | rfl | (simp only [List.length_drop, List.length_take]; rfl)) ?_
                              with_reducible refine (plat_Take.calls k2 x382000_2 x382001_2 x382002_2 x382003_2 x382004_2 (rd l0 x6_2) a1_0 a1_1 a1_2 a1_3 a1_4 a1_5 a1_6 a1_7 t384 t385 t386 t387 t388 false _ A24.out).mono ?_
                              rintro e w58 ⟨rfl, hb⟩
                              refine ⟨_, rfl, ?_⟩
                              have n0_ := Aside0.mk (blk_below (g := gb374) (o := .cells #[.bool a1_0, .string a1_1, .bool a1_2, .int .i64 a1_3, .int .i64 a1_4, .int .i64 a1_5, .int .i64 a1_6, .int .i64 a1_7] 75 (0, 0)) (by (with_reducible repeat (first | refine blk_drewN ?_ _ | refine blk_drew ?_ | refine blk_alloc ?_ _)); exact BK374.out) hb)
                              have n1_ := Aside0.mk (blk_below (g := gb381) (o := .cells #[.bool x382000_2, .int .i64 x382001_2, .int .i64 x382002_2, .int .i64 x382003_2, .int .i64 x382004_2] 73 (0, 0)) (by (with_reducible repeat (first | refine blk_drewN ?_ _ | refine blk_drew ?_ | refine blk_alloc ?_ _)); exact BK381.out) hb)
                              have n2_ := Aside0.mk (below_step (by repeat (first | (with_reducible first | exact HB.out | apply below_alloc | apply pw_below_drewN | apply below_drew1 | refine below_set ?_ GE374.out | refine below_set ?_ GE381.out) | exact HB.out)) hb)
                              clear BK374
                              clear BK381
                              clear HB
                              have BK374 := n0_
                              have BK381 := n1_
                              have HB := n2_
                              clear n0_ n1_ n2_
                              (try clear hb)
                              (try clear hb2)
                              (try clear hk)
                              (try clear hi)
                              refine hK.out _ _ ⟨(blk_cell BK381.out 0).trans rfl, (blk_cell BK381.out 1).trans rfl, (blk_cell BK381.out 2).trans rfl, (blk_cell BK381.out 3).trans rfl, (blk_cell BK381.out 4).trans rfl, (blk_cell BK374.out 0).trans rfl, (blk_cell BK374.out 1).trans rfl, (blk_cell BK374.out 2).trans rfl, (blk_cell BK374.out 3).trans rfl, (blk_cell BK374.out 4).trans rfl, (blk_cell BK374.out 5).trans rfl, (blk_cell BK374.out 6).trans rfl, (blk_cell BK374.out 7).trans rfl, ((HB.out.cell (World.block_lt_of_cell? w _ hw383_0)).trans hw383_0)⟩ (fun hHeld => ?_)
                              clear hK K
                              refine norm_ (a' := ?_) ?_ ?_
                              rotate_left
                              · show Act.put _ (some 52) _ = _
                                simp only [Act.put, List.setIfInBounds_toArray, List.set_cons_zero, List.set_cons_succ, i64_w, i32_w]
                                rfl
                              refine pure_ (i := 7) (N := some 45) (v := ?_) (a' := ?_) #[true, true, true, true, true, true, true, true, false, false, false, false, false] rfl rfl (any_of HT_.out (by kernel_rfl)) (fun _ _ _ h => h) (Or.inl ⟨by rfl, ?_⟩) ?_ ?_
                              rotate_left
                              · intro w'
                                go_simp
                                with_reducible rfl
                              rotate_left
                              · simp only [Act.put, List.setIfInBounds_toArray, List.set_cons_zero, List.set_cons_succ, i64_w, i32_w]
                                rfl
                              refine pure_ (i := 8) (N := some 53) (v := ?_) (a' := ?_) #[true, true, true, true, true, true, true, true, true, false, false, false, false] rfl rfl (any_of HT_.out (by kernel_rfl)) (fun _ _ _ h => h) (Or.inl ⟨by rfl, ?_⟩) ?_ ?_
                              rotate_left
                              · intro w'
                                go_simp
                                with_reducible rfl
                              rotate_left
                              · simp only [Act.put, List.setIfInBounds_toArray, List.set_cons_zero, List.set_cons_succ, i64_w, i32_w]
                                rfl
                              refine pure_ (i := 9) (N := some 54) (v := ?_) (a' := ?_) #[true, true, true, true, true, true, true, true, true, true, false, false, false] rfl rfl (any_of HT_.out (by kernel_rfl)) (fun _ _ _ h => h) (Or.inl ⟨by rfl, ?_⟩) ?_ ?_
                              rotate_left
                              · intro w'
                                go_simp
                                with_reducible rfl
                              rotate_left
                              · simp only [Act.put, List.setIfInBounds_toArray, List.set_cons_zero, List.set_cons_succ, i64_w, i32_w]
                                rfl
                              refine one_ (i := 10) (N := some 7) #[true, true, true, true, true, true, true, true, true, true, true, false, false] rfl rfl (one_of HT_.out (by kernel_rfl)) (by decide) (fun K hK => ?_)
                              refine box_step ?hg (N := 7) ?hd (cs := #[.bool false, .int .i64 0, .int .i64 0, .int .i64 0, .int .i64 0]) (t := 73) ?hr ?_; (case hd => rfl); (case hg => rfl); (case hr => first | (go_simp; done) | (go_simp; rfl))
                              intro gb390 hg w59 hbox hb
                              have n0_ := Aside0.mk (blk_below (g := gb374) (o := .cells #[.bool a1_0, .string a1_1, .bool a1_2, .int .i64 a1_3, .int .i64 a1_4, .int .i64 a1_5, .int .i64 a1_6, .int .i64 a1_7] 75 (0, 0)) (by (with_reducible repeat (first | refine blk_drewN ?_ _ | refine blk_drew ?_ | refine blk_alloc ?_ _)); exact BK374.out) hb)
                              have n1_ := Aside0.mk (blk_below (g := gb381) (o := .cells #[.bool x382000_2, .int .i64 x382001_2, .int .i64 x382002_2, .int .i64 x382003_2, .int .i64 x382004_2] 73 (0, 0)) (by (with_reducible repeat (first | refine blk_drewN ?_ _ | refine blk_drew ?_ | refine blk_alloc ?_ _)); exact BK381.out) hb)
                              have n2_ := Aside0.mk (below_step (by repeat (first | (with_reducible first | exact HB.out | apply below_alloc | apply pw_below_drewN | apply below_drew1 | refine below_set ?_ GE374.out | refine below_set ?_ GE381.out) | exact HB.out)) hb)
                              have n3_ := Aside0.mk (hbox)
                              have n4_ := Aside0.mk ((by rw [hg]; exact (below_size (by repeat (first | (with_reducible first | exact HB.out | apply below_alloc | apply pw_below_drewN | apply below_drew1 | refine below_set ?_ GE374.out | refine below_set ?_ GE381.out) | exact HB.out))) : w.heap.size ≤ gb390))
                              have n5_ := Aside0.mk ((by rw [hg]; exact (below_size (by repeat (first | (with_reducible first | exact HB.out | apply below_alloc | apply pw_below_drewN | apply below_drew1 | refine below_set ?_ GE374.out | refine below_set ?_ GE381.out) | exact HB.out))) : w.heap.size ≤ gb390))
                              have n6_ := Aside0.mk ((by rw [hg]; exact Nat.ne_of_lt (blk_lt (g := gb374) (o := .cells #[.bool a1_0, .string a1_1, .bool a1_2, .int .i64 a1_3, .int .i64 a1_4, .int .i64 a1_5, .int .i64 a1_6, .int .i64 a1_7] 75 (0, 0)) (by (with_reducible repeat (first | refine blk_drewN ?_ _ | refine blk_drew ?_ | refine blk_alloc ?_ _)); exact BK374.out)) : gb374 ≠ gb390))
                              have n7_ := Aside0.mk ((by rw [hg]; exact Nat.ne_of_gt (blk_lt (g := gb374) (o := .cells #[.bool a1_0, .string a1_1, .bool a1_2, .int .i64 a1_3, .int .i64 a1_4, .int .i64 a1_5, .int .i64 a1_6, .int .i64 a1_7] 75 (0, 0)) (by (with_reducible repeat (first | refine blk_drewN ?_ _ | refine blk_drew ?_ | refine blk_alloc ?_ _)); exact BK374.out)) : gb390 ≠ gb374))
                              have n8_ := Aside0.mk ((by rw [hg]; exact Nat.ne_of_lt (blk_lt (g := gb381) (o := .cells #[.bool x382000_2, .int .i64 x382001_2, .int .i64 x382002_2, .int .i64 x382003_2, .int .i64 x382004_2] 73 (0, 0)) (by (with_reducible repeat (first | refine blk_drewN ?_ _ | refine blk_drew ?_ | refine blk_alloc ?_ _)); exact BK381.out)) : gb381 ≠ gb390))
                              have n9_ := Aside0.mk ((by rw [hg]; exact Nat.ne_of_gt (blk_lt (g := gb381) (o := .cells #[.bool x382000_2, .int .i64 x382001_2, .int .i64 x382002_2, .int .i64 x382003_2, .int .i64 x382004_2] 73 (0, 0)) (by (with_reducible repeat (first | refine blk_drewN ?_ _ | refine blk_drew ?_ | refine blk_alloc ?_ _)); exact BK381.out)) : gb390 ≠ gb381))
                              clear BK374
                              clear BK381
                              clear HB
                              have BK374 := n0_
                              have BK381 := n1_
                              have HB := n2_
                              have BK390 := n3_
                              have GW390 := n4_
                              have GE390 := n5_
                              have NB374_390 := n6_
                              have NB390_374 := n7_
                              have NB381_390 := n8_
                              have NB390_381 := n9_
                              clear n0_ n1_ n2_ n3_ n4_ n5_ n6_ n7_ n8_ n9_
                              clear hb hbox hg
                              refine hK.out _ _ ⟨(blk_cell BK381.out 0).trans rfl, (blk_cell BK381.out 1).trans rfl, (blk_cell BK381.out 2).trans rfl, (blk_cell BK381.out 3).trans rfl, (blk_cell BK381.out 4).trans rfl, (blk_cell BK374.out 0).trans rfl, (blk_cell BK374.out 1).trans rfl, (blk_cell BK374.out 2).trans rfl, (blk_cell BK374.out 3).trans rfl, (blk_cell BK374.out 4).trans rfl, (blk_cell BK374.out 5).trans rfl, (blk_cell BK374.out 6).trans rfl, (blk_cell BK374.out 7).trans rfl, ((HB.out.cell (World.block_lt_of_cell? w _ hw383_0)).trans hw383_0)⟩ (fun hHeld => ?_)
                              clear hK K
                              refine norm_ (a' := ?_) ?_ ?_
                              rotate_left
                              · show Act.put _ (some 7) _ = _
                                simp only [Act.put, List.setIfInBounds_toArray, List.set_cons_zero, List.set_cons_succ, i64_w, i32_w]
                                rfl
                              exact norm_ (by simp only [putAll, Act.put, List.setIfInBounds_toArray, List.set_cons_zero, List.set_cons_succ]) (hCont (gb390) _ ⟨hHeld, (by (with_reducible repeat (first | refine blk_drewN ?_ _ | refine blk_drew ?_ | refine blk_alloc ?_ _)); exact BK374.out), (by (with_reducible repeat (first | refine blk_drewN ?_ _ | refine blk_drew ?_ | refine blk_alloc ?_ _)); exact BK381.out), (by (with_reducible repeat (first | refine blk_drewN ?_ _ | refine blk_drew ?_ | refine blk_alloc ?_ _)); exact BK390.out), GW390.out, GE390.out, NB374_390.out, NB390_374.out, NB381_390.out, NB390_381.out, (by repeat (first | (with_reducible first | exact HB.out | apply below_alloc | apply pw_below_drewN | apply below_drew1 | refine below_set ?_ GE374.out | refine below_set ?_ GE381.out | refine below_set ?_ GE390.out) | exact HB.out))⟩)
                            · skip
                              refine box_step ?hg (N := 7) ?hd (cs := #[.bool false, .int .i64 0, .int .i64 0, .int .i64 0, .int .i64 0]) (t := 73) ?hr ?_; (case hd => rfl); (case hg => rfl); (case hr => first | (go_simp; done) | (go_simp; rfl))
                              intro gb390 hg w58 hbox hb
                              have n0_ := Aside0.mk (blk_below (g := gb374) (o := .cells #[.bool a1_0, .string a1_1, .bool a1_2, .int .i64 a1_3, .int .i64 a1_4, .int .i64 a1_5, .int .i64 a1_6, .int .i64 a1_7] 75 (0, 0)) (by (with_reducible repeat (first | refine blk_drewN ?_ _ | refine blk_drew ?_ | refine blk_alloc ?_ _)); exact BK374.out) hb)
                              have n1_ := Aside0.mk (blk_below (g := gb381) (o := .cells #[.bool x382000_2, .int .i64 x382001_2, .int .i64 x382002_2, .int .i64 x382003_2, .int .i64 x382004_2] 73 (0, 0)) (by (with_reducible repeat (first | refine blk_drewN ?_ _ | refine blk_drew ?_ | refine blk_alloc ?_ _)); exact BK381.out) hb)
                              have n2_ := Aside0.mk (below_step (by repeat (first | (with_reducible first | exact HB.out | apply below_alloc | apply pw_below_drewN | apply below_drew1 | refine below_set ?_ GE374.out | refine below_set ?_ GE381.out) | exact HB.out)) hb)
                              have n3_ := Aside0.mk (hbox)
                              have n4_ := Aside0.mk ((by rw [hg]; exact (below_size (by repeat (first | (with_reducible first | exact HB.out | apply below_alloc | apply pw_below_drewN | apply below_drew1 | refine below_set ?_ GE374.out | refine below_set ?_ GE381.out) | exact HB.out))) : w.heap.size ≤ gb390))
                              have n5_ := Aside0.mk ((by rw [hg]; exact (below_size (by repeat (first | (with_reducible first | exact HB.out | apply below_alloc | apply pw_below_drewN | apply below_drew1 | refine below_set ?_ GE374.out | refine below_set ?_ GE381.out) | exact HB.out))) : w.heap.size ≤ gb390))
                              have n6_ := Aside0.mk ((by rw [hg]; exact Nat.ne_of_lt (blk_lt (g := gb374) (o := .cells #[.bool a1_0, .string a1_1, .bool a1_2, .int .i64 a1_3, .int .i64 a1_4, .int .i64 a1_5, .int .i64 a1_6, .int .i64 a1_7] 75 (0, 0)) (by (with_reducible repeat (first | refine blk_drewN ?_ _ | refine blk_drew ?_ | refine blk_alloc ?_ _)); exact BK374.out)) : gb374 ≠ gb390))
                              have n7_ := Aside0.mk ((by rw [hg]; exact Nat.ne_of_gt (blk_lt (g := gb374) (o := .cells #[.bool a1_0, .string a1_1, .bool a1_2, .int .i64 a1_3, .int .i64 a1_4, .int .i64 a1_5, .int .i64 a1_6, .int .i64 a1_7] 75 (0, 0)) (by (with_reducible repeat (first | refine blk_drewN ?_ _ | refine blk_drew ?_ | refine blk_alloc ?_ _)); exact BK374.out)) : gb390 ≠ gb374))
                              have n8_ := Aside0.mk ((by rw [hg]; exact Nat.ne_of_lt (blk_lt (g := gb381) (o := .cells #[.bool x382000_2, .int .i64 x382001_2, .int .i64 x382002_2, .int .i64 x382003_2, .int .i64 x382004_2] 73 (0, 0)) (by (with_reducible repeat (first | refine blk_drewN ?_ _ | refine blk_drew ?_ | refine blk_alloc ?_ _)); exact BK381.out)) : gb381 ≠ gb390))
                              have n9_ := Aside0.mk ((by rw [hg]; exact Nat.ne_of_gt (blk_lt (g := gb381) (o := .cells #[.bool x382000_2, .int .i64 x382001_2, .int .i64 x382002_2, .int .i64 x382003_2, .int .i64 x382004_2] 73 (0, 0)) (by (with_reducible repeat (first | refine blk_drewN ?_ _ | refine blk_drew ?_ | refine blk_alloc ?_ _)); exact BK381.out)) : gb390 ≠ gb381))
                              clear BK374
                              clear BK381
                              clear HB
                              have BK374 := n0_
                              have BK381 := n1_
                              have HB := n2_
                              have BK390 := n3_
                              have GW390 := n4_
                              have GE390 := n5_
                              have NB374_390 := n6_
                              have NB390_374 := n7_
                              have NB381_390 := n8_
                              have NB390_381 := n9_
                              clear n0_ n1_ n2_ n3_ n4_ n5_ n6_ n7_ n8_ n9_
                              clear hb hbox hg
                              refine hK.out _ _ ⟨(blk_cell BK381.out 0).trans rfl, (blk_cell BK381.out 1).trans rfl, (blk_cell BK381.out 2).trans rfl, (blk_cell BK381.out 3).trans rfl, (blk_cell BK381.out 4).trans rfl, (blk_cell BK374.out 0).trans rfl, (blk_cell BK374.out 1).trans rfl, (blk_cell BK374.out 2).trans rfl, (blk_cell BK374.out 3).trans rfl, (blk_cell BK374.out 4).trans rfl, (blk_cell BK374.out 5).trans rfl, (blk_cell BK374.out 6).trans rfl, (blk_cell BK374.out 7).trans rfl, ((HB.out.cell (World.block_lt_of_cell? w _ hw383_0)).trans hw383_0)⟩ (fun hHeld => ?_)
                              clear hK K
                              refine norm_ (a' := ?_) ?_ ?_
                              rotate_left
                              · show Act.put _ (some 7) _ = _
                                simp only [Act.put, List.setIfInBounds_toArray, List.set_cons_zero, List.set_cons_succ, i64_w, i32_w]
                                rfl
                              refine one_ (i := 6) (N := some 52) #[true, true, true, true, true, true, true, false, false, false, true, false, false] rfl rfl (one_of HT_.out (by kernel_rfl)) (by decide) (fun K hK => ?_)
                              refine goes_ Try.func44 (by kernel_rfl) rfl #[.agg #[.bool x382000_2, .int .i64 x382001_2, .int .i64 x382002_2, .int .i64 x382003_2, .int .i64 x382004_2], .int .i64 (rd l0 x6_2), .agg #[.bool a1_0, .string a1_1, .bool a1_2, .int .i64 a1_3, .int .i64 a1_4, .int .i64 a1_5, .int .i64 a1_6, .int .i64 a1_7]] (by rfl) rfl rfl (by (try simp only [List.map_toArray, List.map_cons, List.map_nil]); first | done | rfl | (simp only [List.length_drop, List.length_take]; rfl)) ?_
                              with_reducible refine (plat_Take.calls k2 x382000_2 x382001_2 x382002_2 x382003_2 x382004_2 (rd l0 x6_2) a1_0 a1_1 a1_2 a1_3 a1_4 a1_5 a1_6 a1_7 t384 t385 t386 t387 t388 false _ A24.out).mono ?_
                              rintro e w59 ⟨rfl, hb⟩
                              refine ⟨_, rfl, ?_⟩
                              have n0_ := Aside0.mk (blk_below (g := gb374) (o := .cells #[.bool a1_0, .string a1_1, .bool a1_2, .int .i64 a1_3, .int .i64 a1_4, .int .i64 a1_5, .int .i64 a1_6, .int .i64 a1_7] 75 (0, 0)) (by (with_reducible repeat (first | refine blk_drewN ?_ _ | refine blk_drew ?_ | refine blk_alloc ?_ _)); exact BK374.out) hb)
                              have n1_ := Aside0.mk (blk_below (g := gb381) (o := .cells #[.bool x382000_2, .int .i64 x382001_2, .int .i64 x382002_2, .int .i64 x382003_2, .int .i64 x382004_2] 73 (0, 0)) (by (with_reducible repeat (first | refine blk_drewN ?_ _ | refine blk_drew ?_ | refine blk_alloc ?_ _)); exact BK381.out) hb)
                              have n2_ := Aside0.mk (blk_below (g := gb390) (o := .cells #[.bool false, .int .i64 0, .int .i64 0, .int .i64 0, .int .i64 0] 73 (0, 0)) (by (with_reducible repeat (first | refine blk_drewN ?_ _ | refine blk_drew ?_ | refine blk_alloc ?_ _)); exact BK390.out) hb)
                              have n3_ := Aside0.mk (below_step (by repeat (first | (with_reducible first | exact HB.out | apply below_alloc | apply pw_below_drewN | apply below_drew1 | refine below_set ?_ GE374.out | refine below_set ?_ GE381.out | refine below_set ?_ GE390.out) | exact HB.out)) hb)
                              clear BK374
                              clear BK381
                              clear BK390
                              clear HB
                              have BK374 := n0_
                              have BK381 := n1_
                              have BK390 := n2_
                              have HB := n3_
                              clear n0_ n1_ n2_ n3_
                              (try clear hb)
                              (try clear hb2)
                              (try clear hk)
                              (try clear hi)
                              refine hK.out _ _ ⟨(blk_cell BK381.out 0).trans rfl, (blk_cell BK381.out 1).trans rfl, (blk_cell BK381.out 2).trans rfl, (blk_cell BK381.out 3).trans rfl, (blk_cell BK381.out 4).trans rfl, (blk_cell BK374.out 0).trans rfl, (blk_cell BK374.out 1).trans rfl, (blk_cell BK374.out 2).trans rfl, (blk_cell BK374.out 3).trans rfl, (blk_cell BK374.out 4).trans rfl, (blk_cell BK374.out 5).trans rfl, (blk_cell BK374.out 6).trans rfl, (blk_cell BK374.out 7).trans rfl, ((HB.out.cell (World.block_lt_of_cell? w _ hw383_0)).trans hw383_0)⟩ (fun hHeld => ?_)
                              clear hK K
                              refine norm_ (a' := ?_) ?_ ?_
                              rotate_left
                              · show Act.put _ (some 52) _ = _
                                simp only [Act.put, List.setIfInBounds_toArray, List.set_cons_zero, List.set_cons_succ, i64_w, i32_w]
                                rfl
                              refine pure_ (i := 7) (N := some 45) (v := ?_) (a' := ?_) #[true, true, true, true, true, true, true, true, false, false, true, false, false] rfl rfl (any_of HT_.out (by kernel_rfl)) (fun _ _ _ h => h) (Or.inl ⟨by rfl, ?_⟩) ?_ ?_
                              rotate_left
                              · intro w'
                                go_simp
                                with_reducible rfl
                              rotate_left
                              · simp only [Act.put, List.setIfInBounds_toArray, List.set_cons_zero, List.set_cons_succ, i64_w, i32_w]
                                rfl
                              refine pure_ (i := 8) (N := some 53) (v := ?_) (a' := ?_) #[true, true, true, true, true, true, true, true, true, false, true, false, false] rfl rfl (any_of HT_.out (by kernel_rfl)) (fun _ _ _ h => h) (Or.inl ⟨by rfl, ?_⟩) ?_ ?_
                              rotate_left
                              · intro w'
                                go_simp
                                with_reducible rfl
                              rotate_left
                              · simp only [Act.put, List.setIfInBounds_toArray, List.set_cons_zero, List.set_cons_succ, i64_w, i32_w]
                                rfl
                              refine pure_ (i := 9) (N := some 54) (v := ?_) (a' := ?_) #[true, true, true, true, true, true, true, true, true, true, true, false, false] rfl rfl (any_of HT_.out (by kernel_rfl)) (fun _ _ _ h => h) (Or.inl ⟨by rfl, ?_⟩) ?_ ?_
                              rotate_left
                              · intro w'
                                go_simp
                                with_reducible rfl
                              rotate_left
                              · simp only [Act.put, List.setIfInBounds_toArray, List.set_cons_zero, List.set_cons_succ, i64_w, i32_w]
                                rfl
                              exact norm_ (by simp only [putAll, Act.put, List.setIfInBounds_toArray, List.set_cons_zero, List.set_cons_succ]) (hCont (gb390) _ ⟨hHeld, (by (with_reducible repeat (first | refine blk_drewN ?_ _ | refine blk_drew ?_ | refine blk_alloc ?_ _)); exact BK374.out), (by (with_reducible repeat (first | refine blk_drewN ?_ _ | refine blk_drew ?_ | refine blk_alloc ?_ _)); exact BK381.out), (by (with_reducible repeat (first | refine blk_drewN ?_ _ | refine blk_drew ?_ | refine blk_alloc ?_ _)); exact BK390.out), GW390.out, GE390.out, NB374_390.out, NB390_374.out, NB381_390.out, NB390_381.out, (by repeat (first | (with_reducible first | exact HB.out | apply below_alloc | apply pw_below_drewN | apply below_drew1 | refine below_set ?_ GE374.out | refine below_set ?_ GE381.out | refine below_set ?_ GE390.out) | exact HB.out))⟩)
                          rintro gb390 w60 ⟨hS_, h0_, h1_, h2_, h3_, h4_, h5_, h6_, h7_, h8_, h9_⟩
                          have n0_ : Aside0 (w60.heap[gb374]? = some (.cells #[.bool a1_0, .string a1_1, .bool a1_2, .int .i64 a1_3, .int .i64 a1_4, .int .i64 a1_5, .int .i64 a1_6, .int .i64 a1_7] 75 (0, 0))) := ⟨h0_⟩
                          have n1_ : Aside0 (w60.heap[gb381]? = some (.cells #[.bool x382000_2, .int .i64 x382001_2, .int .i64 x382002_2, .int .i64 x382003_2, .int .i64 x382004_2] 73 (0, 0))) := ⟨h1_⟩
                          have n2_ : Aside0 (w60.heap[gb390]? = some (.cells #[.bool false, .int .i64 0, .int .i64 0, .int .i64 0, .int .i64 0] 73 (0, 0))) := ⟨h2_⟩
                          have n3_ : Aside0 (w.heap.size ≤ gb390) := ⟨h3_⟩
                          have n4_ : Aside0 (w.heap.size ≤ gb390) := ⟨h4_⟩
                          have n5_ : Aside0 (gb374 ≠ gb390) := ⟨h5_⟩
                          have n6_ : Aside0 (gb390 ≠ gb374) := ⟨h6_⟩
                          have n7_ : Aside0 (gb381 ≠ gb390) := ⟨h7_⟩
                          have n8_ : Aside0 (gb390 ≠ gb381) := ⟨h8_⟩
                          have n9_ : Aside0 (Below w.heap.size w w60) := ⟨h9_⟩
                          clear BK374
                          clear BK381
                          clear HB
                          clear h0_ h1_ h2_ h3_ h4_ h5_ h6_ h7_ h8_ h9_
                          have BK374 := n0_
                          have BK381 := n1_
                          have BK390 := n2_
                          have GW390 := n3_
                          have GE390 := n4_
                          have NB374_390 := n5_
                          have NB390_374 := n6_
                          have NB381_390 := n7_
                          have NB390_381 := n8_
                          have HB := n9_
                          clear n0_ n1_ n2_ n3_ n4_ n5_ n6_ n7_ n8_ n9_
                          have hHeld : w60.cell? ⟨gb381, 0, none⟩ = some (.bool x382000_2) ∧ w60.cell? ⟨gb381, 1, none⟩ = some (.int .i64 x382001_2) ∧ w60.cell? ⟨gb381, 2, none⟩ = some (.int .i64 x382002_2) ∧ w60.cell? ⟨gb381, 3, none⟩ = some (.int .i64 x382003_2) ∧ w60.cell? ⟨gb381, 4, none⟩ = some (.int .i64 x382004_2) ∧ w60.cell? ⟨gb374, 0, none⟩ = some (.bool a1_0) ∧ w60.cell? ⟨gb374, 1, none⟩ = some (.string a1_1) ∧ w60.cell? ⟨gb374, 2, none⟩ = some (.bool a1_2) ∧ w60.cell? ⟨gb374, 3, none⟩ = some (.int .i64 a1_3) ∧ w60.cell? ⟨gb374, 4, none⟩ = some (.int .i64 a1_4) ∧ w60.cell? ⟨gb374, 5, none⟩ = some (.int .i64 a1_5) ∧ w60.cell? ⟨gb374, 6, none⟩ = some (.int .i64 a1_6) ∧ w60.cell? ⟨gb374, 7, none⟩ = some (.int .i64 a1_7) ∧ w60.cell? (ad383.add (x6_2).toNat) = some (.int .i64 (rd l0 x6_2)) := hS_
                          refine norm_ (a' := ?_) ?_ ?_
                          rotate_left
                          · simp only [putAll, Act.put, List.setIfInBounds_toArray, List.set_cons_zero, List.set_cons_succ]
                            rfl
                          refine one_ (i := 11) (N := none) #[true, true, true, true, true, true, true, true, true, true, true, true, false] rfl rfl (one_of HT_.out (by kernel_rfl)) (by decide) (fun K hK => ?_)
                          have hs61 : w60.cell? ⟨gb390, 0, none⟩ = some (.bool false) := (blk_cell BK390.out 0).trans rfl
                          have hfs61 := blk_frozen BK390.out 0
                          have hns61_0 := NB374_390.out
                          have hns61_1 := NB381_390.out
                          have hms61_0 := NB390_374.out
                          have hms61_1 := NB390_381.out
                          have hs62 : w60.cell? ⟨gb390, 1, none⟩ = some (.int .i64 0) := (blk_cell BK390.out 1).trans rfl
                          have hfs62 := blk_frozen BK390.out 1
                          have hns62_0 := NB374_390.out
                          have hns62_1 := NB381_390.out
                          have hms62_0 := NB390_374.out
                          have hms62_1 := NB390_381.out
                          have hs63 : w60.cell? ⟨gb390, 2, none⟩ = some (.int .i64 0) := (blk_cell BK390.out 2).trans rfl
                          have hfs63 := blk_frozen BK390.out 2
                          have hns63_0 := NB374_390.out
                          have hns63_1 := NB381_390.out
                          have hms63_0 := NB390_374.out
                          have hms63_1 := NB390_381.out
                          have hs64 : w60.cell? ⟨gb390, 3, none⟩ = some (.int .i64 0) := (blk_cell BK390.out 3).trans rfl
                          have hfs64 := blk_frozen BK390.out 3
                          have hns64_0 := NB374_390.out
                          have hns64_1 := NB381_390.out
                          have hms64_0 := NB390_374.out
                          have hms64_1 := NB390_381.out
                          have hs65 : w60.cell? ⟨gb390, 4, none⟩ = some (.int .i64 0) := (blk_cell BK390.out 4).trans rfl
                          have hfs65 := blk_frozen BK390.out 4
                          have hns65_0 := NB374_390.out
                          have hns65_1 := NB381_390.out
                          have hms65_0 := NB390_374.out
                          have hms65_1 := NB390_381.out
                          refine skip_ (w1 := ?_) (by rfl) rfl ?_ ?_
                          rotate_left
                          · go_simp
                            rfl
                          refine hK.out _ _ ⟨((cell_far (p := ⟨gb390, _, none⟩) NB381_390.out _).trans (((cell_far (p := ⟨gb390, _, none⟩) NB381_390.out _).trans (((cell_far (p := ⟨gb390, _, none⟩) NB381_390.out _).trans (((cell_far (p := ⟨gb390, _, none⟩) NB381_390.out _).trans (((cell_far (p := ⟨gb390, _, none⟩) NB381_390.out _).trans (hHeld.1)))))))))), ((cell_far (p := ⟨gb390, _, none⟩) NB381_390.out _).trans (((cell_far (p := ⟨gb390, _, none⟩) NB381_390.out _).trans (((cell_far (p := ⟨gb390, _, none⟩) NB381_390.out _).trans (((cell_far (p := ⟨gb390, _, none⟩) NB381_390.out _).trans (((cell_far (p := ⟨gb390, _, none⟩) NB381_390.out _).trans (hHeld.2.1)))))))))), ((cell_far (p := ⟨gb390, _, none⟩) NB381_390.out _).trans (((cell_far (p := ⟨gb390, _, none⟩) NB381_390.out _).trans (((cell_far (p := ⟨gb390, _, none⟩) NB381_390.out _).trans (((cell_far (p := ⟨gb390, _, none⟩) NB381_390.out _).trans (((cell_far (p := ⟨gb390, _, none⟩) NB381_390.out _).trans (hHeld.2.2.1)))))))))), ((cell_far (p := ⟨gb390, _, none⟩) NB381_390.out _).trans (((cell_far (p := ⟨gb390, _, none⟩) NB381_390.out _).trans (((cell_far (p := ⟨gb390, _, none⟩) NB381_390.out _).trans (((cell_far (p := ⟨gb390, _, none⟩) NB381_390.out _).trans (((cell_far (p := ⟨gb390, _, none⟩) NB381_390.out _).trans (hHeld.2.2.2.1)))))))))), ((cell_far (p := ⟨gb390, _, none⟩) NB381_390.out _).trans (((cell_far (p := ⟨gb390, _, none⟩) NB381_390.out _).trans (((cell_far (p := ⟨gb390, _, none⟩) NB381_390.out _).trans (((cell_far (p := ⟨gb390, _, none⟩) NB381_390.out _).trans (((cell_far (p := ⟨gb390, _, none⟩) NB381_390.out _).trans (hHeld.2.2.2.2.1)))))))))), ((cell_far (p := ⟨gb390, _, none⟩) NB374_390.out _).trans (((cell_far (p := ⟨gb390, _, none⟩) NB374_390.out _).trans (((cell_far (p := ⟨gb390, _, none⟩) NB374_390.out _).trans (((cell_far (p := ⟨gb390, _, none⟩) NB374_390.out _).trans (((cell_far (p := ⟨gb390, _, none⟩) NB374_390.out _).trans (hHeld.2.2.2.2.2.1)))))))))), ((cell_far (p := ⟨gb390, _, none⟩) NB374_390.out _).trans (((cell_far (p := ⟨gb390, _, none⟩) NB374_390.out _).trans (((cell_far (p := ⟨gb390, _, none⟩) NB374_390.out _).trans (((cell_far (p := ⟨gb390, _, none⟩) NB374_390.out _).trans (((cell_far (p := ⟨gb390, _, none⟩) NB374_390.out _).trans (hHeld.2.2.2.2.2.2.1)))))))))), ((cell_far (p := ⟨gb390, _, none⟩) NB374_390.out _).trans (((cell_far (p := ⟨gb390, _, none⟩) NB374_390.out _).trans (((cell_far (p := ⟨gb390, _, none⟩) NB374_390.out _).trans (((cell_far (p := ⟨gb390, _, none⟩) NB374_390.out _).trans (((cell_far (p := ⟨gb390, _, none⟩) NB374_390.out _).trans (hHeld.2.2.2.2.2.2.2.1)))))))))), ((cell_far (p := ⟨gb390, _, none⟩) NB374_390.out _).trans (((cell_far (p := ⟨gb390, _, none⟩) NB374_390.out _).trans (((cell_far (p := ⟨gb390, _, none⟩) NB374_390.out _).trans (((cell_far (p := ⟨gb390, _, none⟩) NB374_390.out _).trans (((cell_far (p := ⟨gb390, _, none⟩) NB374_390.out _).trans (hHeld.2.2.2.2.2.2.2.2.1)))))))))), ((cell_far (p := ⟨gb390, _, none⟩) NB374_390.out _).trans (((cell_far (p := ⟨gb390, _, none⟩) NB374_390.out _).trans (((cell_far (p := ⟨gb390, _, none⟩) NB374_390.out _).trans (((cell_far (p := ⟨gb390, _, none⟩) NB374_390.out _).trans (((cell_far (p := ⟨gb390, _, none⟩) NB374_390.out _).trans (hHeld.2.2.2.2.2.2.2.2.2.1)))))))))), ((cell_far (p := ⟨gb390, _, none⟩) NB374_390.out _).trans (((cell_far (p := ⟨gb390, _, none⟩) NB374_390.out _).trans (((cell_far (p := ⟨gb390, _, none⟩) NB374_390.out _).trans (((cell_far (p := ⟨gb390, _, none⟩) NB374_390.out _).trans (((cell_far (p := ⟨gb390, _, none⟩) NB374_390.out _).trans (hHeld.2.2.2.2.2.2.2.2.2.2.1)))))))))), ((cell_far (p := ⟨gb390, _, none⟩) NB374_390.out _).trans (((cell_far (p := ⟨gb390, _, none⟩) NB374_390.out _).trans (((cell_far (p := ⟨gb390, _, none⟩) NB374_390.out _).trans (((cell_far (p := ⟨gb390, _, none⟩) NB374_390.out _).trans (((cell_far (p := ⟨gb390, _, none⟩) NB374_390.out _).trans (hHeld.2.2.2.2.2.2.2.2.2.2.2.1)))))))))), ((cell_far (p := ⟨gb390, _, none⟩) NB374_390.out _).trans (((cell_far (p := ⟨gb390, _, none⟩) NB374_390.out _).trans (((cell_far (p := ⟨gb390, _, none⟩) NB374_390.out _).trans (((cell_far (p := ⟨gb390, _, none⟩) NB374_390.out _).trans (((cell_far (p := ⟨gb390, _, none⟩) NB374_390.out _).trans (hHeld.2.2.2.2.2.2.2.2.2.2.2.2.1)))))))))), ((cell_far (p := ⟨gb390, _, none⟩) (by first | exact Nat.ne_of_lt (Nat.lt_of_lt_of_le (by have := World.block_lt_of_cell? _ _ hw383_0; first | rwa [add_block] at this | exact this) GW390.out) | (rw [add_block]; exact Nat.ne_of_lt (Nat.lt_of_lt_of_le (by have := World.block_lt_of_cell? _ _ hw383_0; first | rwa [add_block] at this | exact this) GW390.out)) | (show (Addr.add _ _).block ≠ _; rw [add_block]; exact Nat.ne_of_lt (Nat.lt_of_lt_of_le (by have := World.block_lt_of_cell? _ _ hw383_0; first | rwa [add_block] at this | exact this) GW390.out)) | (dsimp only; exact Nat.ne_of_lt (Nat.lt_of_lt_of_le (by have := World.block_lt_of_cell? _ _ hw383_0; first | rwa [add_block] at this | exact this) GW390.out))) _).trans (((cell_far (p := ⟨gb390, _, none⟩) (by first | exact Nat.ne_of_lt (Nat.lt_of_lt_of_le (by have := World.block_lt_of_cell? _ _ hw383_0; first | rwa [add_block] at this | exact this) GW390.out) | (rw [add_block]; exact Nat.ne_of_lt (Nat.lt_of_lt_of_le (by have := World.block_lt_of_cell? _ _ hw383_0; first | rwa [add_block] at this | exact this) GW390.out)) | (show (Addr.add _ _).block ≠ _; rw [add_block]; exact Nat.ne_of_lt (Nat.lt_of_lt_of_le (by have := World.block_lt_of_cell? _ _ hw383_0; first | rwa [add_block] at this | exact this) GW390.out)) | (dsimp only; exact Nat.ne_of_lt (Nat.lt_of_lt_of_le (by have := World.block_lt_of_cell? _ _ hw383_0; first | rwa [add_block] at this | exact this) GW390.out))) _).trans (((cell_far (p := ⟨gb390, _, none⟩) (by first | exact Nat.ne_of_lt (Nat.lt_of_lt_of_le (by have := World.block_lt_of_cell? _ _ hw383_0; first | rwa [add_block] at this | exact this) GW390.out) | (rw [add_block]; exact Nat.ne_of_lt (Nat.lt_of_lt_of_le (by have := World.block_lt_of_cell? _ _ hw383_0; first | rwa [add_block] at this | exact this) GW390.out)) | (show (Addr.add _ _).block ≠ _; rw [add_block]; exact Nat.ne_of_lt (Nat.lt_of_lt_of_le (by have := World.block_lt_of_cell? _ _ hw383_0; first | rwa [add_block] at this | exact this) GW390.out)) | (dsimp only; exact Nat.ne_of_lt (Nat.lt_of_lt_of_le (by have := World.block_lt_of_cell? _ _ hw383_0; first | rwa [add_block] at this | exact this) GW390.out))) _).trans (((cell_far (p := ⟨gb390, _, none⟩) (by first | exact Nat.ne_of_lt (Nat.lt_of_lt_of_le (by have := World.block_lt_of_cell? _ _ hw383_0; first | rwa [add_block] at this | exact this) GW390.out) | (rw [add_block]; exact Nat.ne_of_lt (Nat.lt_of_lt_of_le (by have := World.block_lt_of_cell? _ _ hw383_0; first | rwa [add_block] at this | exact this) GW390.out)) | (show (Addr.add _ _).block ≠ _; rw [add_block]; exact Nat.ne_of_lt (Nat.lt_of_lt_of_le (by have := World.block_lt_of_cell? _ _ hw383_0; first | rwa [add_block] at this | exact this) GW390.out)) | (dsimp only; exact Nat.ne_of_lt (Nat.lt_of_lt_of_le (by have := World.block_lt_of_cell? _ _ hw383_0; first | rwa [add_block] at this | exact this) GW390.out))) _).trans (((cell_far (p := ⟨gb390, _, none⟩) (by first | exact Nat.ne_of_lt (Nat.lt_of_lt_of_le (by have := World.block_lt_of_cell? _ _ hw383_0; first | rwa [add_block] at this | exact this) GW390.out) | (rw [add_block]; exact Nat.ne_of_lt (Nat.lt_of_lt_of_le (by have := World.block_lt_of_cell? _ _ hw383_0; first | rwa [add_block] at this | exact this) GW390.out)) | (show (Addr.add _ _).block ≠ _; rw [add_block]; exact Nat.ne_of_lt (Nat.lt_of_lt_of_le (by have := World.block_lt_of_cell? _ _ hw383_0; first | rwa [add_block] at this | exact this) GW390.out)) | (dsimp only; exact Nat.ne_of_lt (Nat.lt_of_lt_of_le (by have := World.block_lt_of_cell? _ _ hw383_0; first | rwa [add_block] at this | exact this) GW390.out))) _).trans (hHeld.2.2.2.2.2.2.2.2.2.2.2.2.2))))))))))⟩ (fun hHeld => ?_)
                          clear hK K
                          refine pure_ (i := 12) (N := some 8) (v := ?_) (a' := ?_) #[true, true, true, true, true, true, true, true, true, true, true, true, true] rfl rfl (any_of HT_.out (by kernel_rfl)) (fun _ _ _ h => h) (Or.inl ⟨by rfl, ?_⟩) ?_ ?_
                          rotate_left
                          · intro w'
                            go_simp
                            with_reducible rfl
                          rotate_left
                          · simp only [Act.put, List.setIfInBounds_toArray, List.set_cons_zero, List.set_cons_succ, i64_w, i32_w]
                            rfl
                          refine done_ (done_of HT_.out (by kernel_rfl)) ?_
                          have hnb66 := NB381_374.out
                          have hnc66 := NB374_381.out
                          have hnb67 := NB381_390.out
                          have hnc67 := NB390_381.out
                          have hcz68_0 : w60.cell? ⟨gb381, 0, none⟩ = some (.bool x382000_2) := (blk_cell BK381.out 0).trans rfl
                          have hcz68_1 : w60.cell? ⟨gb381, 1, none⟩ = some (.int .i64 x382001_2) := (blk_cell BK381.out 1).trans rfl
                          have hcz68_2 : w60.cell? ⟨gb381, 2, none⟩ = some (.int .i64 x382002_2) := (blk_cell BK381.out 2).trans rfl
                          have hcz68_3 : w60.cell? ⟨gb381, 3, none⟩ = some (.int .i64 x382003_2) := (blk_cell BK381.out 3).trans rfl
                          have hcz68_4 : w60.cell? ⟨gb381, 4, none⟩ = some (.int .i64 x382004_2) := (blk_cell BK381.out 4).trans rfl
                          have hfz68_0 := blk_frozen BK381.out 0
                          have hfz68_1 := blk_frozen BK381.out 1
                          have hfz68_2 := blk_frozen BK381.out 2
                          have hfz68_3 := blk_frozen BK381.out 3
                          have hfz68_4 := blk_frozen BK381.out 4
                          have hnb69 := NB374_390.out
                          have hnc69 := NB390_374.out
                          have hcz70_0 : w60.cell? ⟨gb374, 0, none⟩ = some (.bool a1_0) := (blk_cell BK374.out 0).trans rfl
                          have hcz70_1 : w60.cell? ⟨gb374, 1, none⟩ = some (.string a1_1) := (blk_cell BK374.out 1).trans rfl
                          have hcz70_2 : w60.cell? ⟨gb374, 2, none⟩ = some (.bool a1_2) := (blk_cell BK374.out 2).trans rfl
                          have hcz70_3 : w60.cell? ⟨gb374, 3, none⟩ = some (.int .i64 a1_3) := (blk_cell BK374.out 3).trans rfl
                          have hcz70_4 : w60.cell? ⟨gb374, 4, none⟩ = some (.int .i64 a1_4) := (blk_cell BK374.out 4).trans rfl
                          have hcz70_5 : w60.cell? ⟨gb374, 5, none⟩ = some (.int .i64 a1_5) := (blk_cell BK374.out 5).trans rfl
                          have hcz70_6 : w60.cell? ⟨gb374, 6, none⟩ = some (.int .i64 a1_6) := (blk_cell BK374.out 6).trans rfl
                          have hcz70_7 : w60.cell? ⟨gb374, 7, none⟩ = some (.int .i64 a1_7) := (blk_cell BK374.out 7).trans rfl
                          have hfz70_0 := blk_frozen BK374.out 0
                          have hfz70_1 := blk_frozen BK374.out 1
                          have hfz70_2 := blk_frozen BK374.out 2
                          have hfz70_3 := blk_frozen BK374.out 3
                          have hfz70_4 := blk_frozen BK374.out 4
                          have hfz70_5 := blk_frozen BK374.out 5
                          have hfz70_6 := blk_frozen BK374.out 6
                          have hfz70_7 := blk_frozen BK374.out 7
                          try go_wp2_with (first | ((with_reducible refine gate_callee (f := 45) rfl ?_); refine goesL_ (some 63) rfl rfl Try.func45 (by kernel_rfl) rfl #[.agg #[.bool true, .int .i64 0, .int .i64 1099511627776, .int .i64 0, .int .i64 x382004_2], .int .i64 0, .agg #[.bool false, .string (⟨#[]⟩ : ByteArray), .bool false, .int .i64 a1_3, .int .i64 1, .int .i64 0, .int .i64 0, .int .i64 0]] rfl (by (try simp only [List.map_toArray, List.map_cons, List.map_nil]); first | done | rfl | (simp only [List.length_drop, List.length_take]; rfl)) ?_; (with_reducible refine (regimenref31_Take.calls k2 true 0 1099511627776 0 x382004_2 0 false (⟨#[]⟩ : ByteArray) false a1_3 1 0 0 0 t391 t392 t393 t394 t395 t396 _ A25.out).mono ?_); rintro e w71 ⟨rfl, hb⟩; refine ⟨_, rfl, ?_⟩; have n0_ := Aside0.mk (blk_below (g := gb374) (o := .cells #[.bool a1_0, .string a1_1, .bool a1_2, .int .i64 a1_3, .int .i64 a1_4, .int .i64 a1_5, .int .i64 a1_6, .int .i64 a1_7] 75 (0, 0)) (by (with_reducible repeat (first | refine blk_drewN ?_ _ | refine blk_drew ?_ | refine blk_alloc ?_ _)); refine blk_far ?_ NB374_390.out _; (with_reducible repeat (first | refine blk_drewN ?_ _ | refine blk_drew ?_ | refine blk_alloc ?_ _)); refine blk_far ?_ NB374_390.out _; (with_reducible repeat (first | refine blk_drewN ?_ _ | refine blk_drew ?_ | refine blk_alloc ?_ _)); refine blk_far ?_ NB374_390.out _; (with_reducible repeat (first | refine blk_drewN ?_ _ | refine blk_drew ?_ | refine blk_alloc ?_ _)); refine blk_far ?_ NB374_390.out _; (with_reducible repeat (first | refine blk_drewN ?_ _ | refine blk_drew ?_ | refine blk_alloc ?_ _)); refine blk_far ?_ NB374_390.out _; (with_reducible repeat (first | refine blk_drewN ?_ _ | refine blk_drew ?_ | refine blk_alloc ?_ _)); exact BK374.out) hb); have n1_ := Aside0.mk (blk_below (g := gb381) (o := .cells #[.bool x382000_2, .int .i64 x382001_2, .int .i64 x382002_2, .int .i64 x382003_2, .int .i64 x382004_2] 73 (0, 0)) (by (with_reducible repeat (first | refine blk_drewN ?_ _ | refine blk_drew ?_ | refine blk_alloc ?_ _)); refine blk_far ?_ NB381_390.out _; (with_reducible repeat (first | refine blk_drewN ?_ _ | refine blk_drew ?_ | refine blk_alloc ?_ _)); refine blk_far ?_ NB381_390.out _; (with_reducible repeat (first | refine blk_drewN ?_ _ | refine blk_drew ?_ | refine blk_alloc ?_ _)); refine blk_far ?_ NB381_390.out _; (with_reducible repeat (first | refine blk_drewN ?_ _ | refine blk_drew ?_ | refine blk_alloc ?_ _)); refine blk_far ?_ NB381_390.out _; (with_reducible repeat (first | refine blk_drewN ?_ _ | refine blk_drew ?_ | refine blk_alloc ?_ _)); refine blk_far ?_ NB381_390.out _; (with_reducible repeat (first | refine blk_drewN ?_ _ | refine blk_drew ?_ | refine blk_alloc ?_ _)); exact BK381.out) hb); have n2_ := Aside0.mk (blk_below (g := gb390) (o := .cells #[.bool t384, .int .i64 t385, .int .i64 t386, .int .i64 t387, .int .i64 t388] 73 (0, 0)) (by (with_reducible repeat (first | refine blk_drewN ?_ _ | refine blk_drew ?_ | refine blk_alloc ?_ _)); refine blk_put (cs := #[.bool t384, .int .i64 t385, .int .i64 t386, .int .i64 t387, .int .i64 0]) ?_ 4 _ rfl; (with_reducible repeat (first | refine blk_drewN ?_ _ | refine blk_drew ?_ | refine blk_alloc ?_ _)); refine blk_put (cs := #[.bool t384, .int .i64 t385, .int .i64 t386, .int .i64 0, .int .i64 0]) ?_ 3 _ rfl; (with_reducible repeat (first | refine blk_drewN ?_ _ | refine blk_drew ?_ | refine blk_alloc ?_ _)); refine blk_put (cs := #[.bool t384, .int .i64 t385, .int .i64 0, .int .i64 0, .int .i64 0]) ?_ 2 _ rfl; (with_reducible repeat (first | refine blk_drewN ?_ _ | refine blk_drew ?_ | refine blk_alloc ?_ _)); refine blk_put (cs := #[.bool t384, .int .i64 0, .int .i64 0, .int .i64 0, .int .i64 0]) ?_ 1 _ rfl; (with_reducible repeat (first | refine blk_drewN ?_ _ | refine blk_drew ?_ | refine blk_alloc ?_ _)); refine blk_put (cs := #[.bool false, .int .i64 0, .int .i64 0, .int .i64 0, .int .i64 0]) ?_ 0 _ rfl; (with_reducible repeat (first | refine blk_drewN ?_ _ | refine blk_drew ?_ | refine blk_alloc ?_ _)); exact BK390.out) hb); have n3_ := Aside0.mk (below_step (by repeat (first | (with_reducible first | exact HB.out | apply below_alloc | apply pw_below_drewN | apply below_drew1 | refine below_set ?_ GE374.out | refine below_set ?_ GE381.out | refine below_set ?_ GE390.out) | exact HB.out)) hb); clear BK374; clear BK381; clear BK390; clear HB; have BK374 := n0_; have BK381 := n1_; have BK390 := n2_; have HB := n3_; clear n0_ n1_ n2_ n3_; (try clear hb); (try clear hb2); (try clear hk); (try clear hi)) | ((with_reducible refine gate_dst (N := 9) rfl ?_); refine box_event ?hg (N := 9) ?hd (cs := #[.bool false, .int .i64 0, .int .i64 0, .int .i64 0, .int .i64 0]) (t := 73) ?hr ?_; (case hd => rfl); (case hg => rfl); (case hr => first | (go_simp; done) | (go_simp; rfl)); intro gb397 hg w72 hbox hb; have n0_ := Aside0.mk (blk_below (g := gb374) (o := .cells #[.bool a1_0, .string a1_1, .bool a1_2, .int .i64 a1_3, .int .i64 a1_4, .int .i64 a1_5, .int .i64 a1_6, .int .i64 a1_7] 75 (0, 0)) (by (with_reducible repeat (first | refine blk_drewN ?_ _ | refine blk_drew ?_ | refine blk_alloc ?_ _)); exact BK374.out) hb); have n1_ := Aside0.mk (blk_below (g := gb381) (o := .cells #[.bool x382000_2, .int .i64 x382001_2, .int .i64 x382002_2, .int .i64 x382003_2, .int .i64 x382004_2] 73 (0, 0)) (by (with_reducible repeat (first | refine blk_drewN ?_ _ | refine blk_drew ?_ | refine blk_alloc ?_ _)); exact BK381.out) hb); have n2_ := Aside0.mk (blk_below (g := gb390) (o := .cells #[.bool t384, .int .i64 t385, .int .i64 t386, .int .i64 t387, .int .i64 t388] 73 (0, 0)) (by (with_reducible repeat (first | refine blk_drewN ?_ _ | refine blk_drew ?_ | refine blk_alloc ?_ _)); exact BK390.out) hb); have n3_ := Aside0.mk (below_step (by repeat (first | (with_reducible first | exact HB.out | apply below_alloc | apply pw_below_drewN | apply below_drew1 | refine below_set ?_ GE374.out | refine below_set ?_ GE381.out | refine below_set ?_ GE390.out) | exact HB.out)) hb); have n4_ := Aside0.mk (hbox); have n5_ := Aside0.mk ((by rw [hg]; exact (below_size (by repeat (first | (with_reducible first | exact HB.out | apply below_alloc | apply pw_below_drewN | apply below_drew1 | refine below_set ?_ GE374.out | refine below_set ?_ GE381.out | refine below_set ?_ GE390.out) | exact HB.out))) : w.heap.size ≤ gb397)); have n6_ := Aside0.mk ((by rw [hg]; exact (below_size (by repeat (first | (with_reducible first | exact HB.out | apply below_alloc | apply pw_below_drewN | apply below_drew1 | refine below_set ?_ GE374.out | refine below_set ?_ GE381.out | refine below_set ?_ GE390.out) | exact HB.out))) : w.heap.size ≤ gb397)); have n7_ := Aside0.mk ((by rw [hg]; exact Nat.ne_of_lt (blk_lt (g := gb374) (o := .cells #[.bool a1_0, .string a1_1, .bool a1_2, .int .i64 a1_3, .int .i64 a1_4, .int .i64 a1_5, .int .i64 a1_6, .int .i64 a1_7] 75 (0, 0)) (by (with_reducible repeat (first | refine blk_drewN ?_ _ | refine blk_drew ?_ | refine blk_alloc ?_ _)); exact BK374.out)) : gb374 ≠ gb397)); have n8_ := Aside0.mk ((by rw [hg]; exact Nat.ne_of_gt (blk_lt (g := gb374) (o := .cells #[.bool a1_0, .string a1_1, .bool a1_2, .int .i64 a1_3, .int .i64 a1_4, .int .i64 a1_5, .int .i64 a1_6, .int .i64 a1_7] 75 (0, 0)) (by (with_reducible repeat (first | refine blk_drewN ?_ _ | refine blk_drew ?_ | refine blk_alloc ?_ _)); exact BK374.out)) : gb397 ≠ gb374)); have n9_ := Aside0.mk ((by rw [hg]; exact Nat.ne_of_lt (blk_lt (g := gb381) (o := .cells #[.bool x382000_2, .int .i64 x382001_2, .int .i64 x382002_2, .int .i64 x382003_2, .int .i64 x382004_2] 73 (0, 0)) (by (with_reducible repeat (first | refine blk_drewN ?_ _ | refine blk_drew ?_ | refine blk_alloc ?_ _)); exact BK381.out)) : gb381 ≠ gb397)); have n10_ := Aside0.mk ((by rw [hg]; exact Nat.ne_of_gt (blk_lt (g := gb381) (o := .cells #[.bool x382000_2, .int .i64 x382001_2, .int .i64 x382002_2, .int .i64 x382003_2, .int .i64 x382004_2] 73 (0, 0)) (by (with_reducible repeat (first | refine blk_drewN ?_ _ | refine blk_drew ?_ | refine blk_alloc ?_ _)); exact BK381.out)) : gb397 ≠ gb381)); have n11_ := Aside0.mk ((by rw [hg]; exact Nat.ne_of_lt (blk_lt (g := gb390) (o := .cells #[.bool t384, .int .i64 t385, .int .i64 t386, .int .i64 t387, .int .i64 t388] 73 (0, 0)) (by (with_reducible repeat (first | refine blk_drewN ?_ _ | refine blk_drew ?_ | refine blk_alloc ?_ _)); exact BK390.out)) : gb390 ≠ gb397)); have n12_ := Aside0.mk ((by rw [hg]; exact Nat.ne_of_gt (blk_lt (g := gb390) (o := .cells #[.bool t384, .int .i64 t385, .int .i64 t386, .int .i64 t387, .int .i64 t388] 73 (0, 0)) (by (with_reducible repeat (first | refine blk_drewN ?_ _ | refine blk_drew ?_ | refine blk_alloc ?_ _)); exact BK390.out)) : gb397 ≠ gb390)); clear BK374; clear BK381; clear BK390; clear HB; have BK374 := n0_; have BK381 := n1_; have BK390 := n2_; have HB := n3_; have BK397 := n4_; have GW397 := n5_; have GE397 := n6_; have NB374_397 := n7_; have NB397_374 := n8_; have NB381_397 := n9_; have NB397_381 := n10_; have NB390_397 := n11_; have NB397_390 := n12_; clear n0_ n1_ n2_ n3_ n4_ n5_ n6_ n7_ n8_ n9_ n10_ n11_ n12_; clear hb hbox hg; have hnb73 := NB397_374.out; have hnc73 := NB374_397.out; have hnb74 := NB397_381.out; have hnc74 := NB381_397.out; have hnb75 := NB397_390.out; have hnc75 := NB390_397.out; have hcz76_0 : w72.cell? ⟨gb397, 0, none⟩ = some (.bool false) := (blk_cell BK397.out 0).trans rfl; have hcz76_1 : w72.cell? ⟨gb397, 1, none⟩ = some (.int .i64 0) := (blk_cell BK397.out 1).trans rfl; have hcz76_2 : w72.cell? ⟨gb397, 2, none⟩ = some (.int .i64 0) := (blk_cell BK397.out 2).trans rfl; have hcz76_3 : w72.cell? ⟨gb397, 3, none⟩ = some (.int .i64 0) := (blk_cell BK397.out 3).trans rfl; have hcz76_4 : w72.cell? ⟨gb397, 4, none⟩ = some (.int .i64 0) := (blk_cell BK397.out 4).trans rfl; have hfz76_0 := blk_frozen BK397.out 0; have hfz76_1 := blk_frozen BK397.out 1; have hfz76_2 := blk_frozen BK397.out 2; have hfz76_3 := blk_frozen BK397.out 3; have hfz76_4 := blk_frozen BK397.out 4; have hcz77_0 : w72.cell? ⟨gb390, 0, none⟩ = some (.bool t384) := (blk_cell BK390.out 0).trans rfl; have hcz77_1 : w72.cell? ⟨gb390, 1, none⟩ = some (.int .i64 t385) := (blk_cell BK390.out 1).trans rfl; have hcz77_2 : w72.cell? ⟨gb390, 2, none⟩ = some (.int .i64 t386) := (blk_cell BK390.out 2).trans rfl; have hcz77_3 : w72.cell? ⟨gb390, 3, none⟩ = some (.int .i64 t387) := (blk_cell BK390.out 3).trans rfl; have hcz77_4 : w72.cell? ⟨gb390, 4, none⟩ = some (.int .i64 t388) := (blk_cell BK390.out 4).trans rfl; have hfz77_0 := blk_frozen BK390.out 0; have hfz77_1 := blk_frozen BK390.out 1; have hfz77_2 := blk_frozen BK390.out 2; have hfz77_3 := blk_frozen BK390.out 3; have hfz77_4 := blk_frozen BK390.out 4) | ((with_reducible refine gate_callee (f := 46) rfl ?_); refine goesL_ (some 67) rfl rfl Try.func46 (by kernel_rfl) rfl #[.agg #[.bool t384, .int .i64 t385, .int .i64 t386, .int .i64 t387, .int .i64 t388]] rfl (by (try simp only [List.map_toArray, List.map_cons, List.map_nil]); first | done | rfl | (simp only [List.length_drop, List.length_take]; rfl)) ?_; (with_reducible refine (plat_Check.calls k2 t384 t385 t386 t387 t388 true _ A26.out).mono ?_); rintro e w78 ⟨rfl, hb⟩; refine ⟨_, rfl, ?_⟩; have n0_ := Aside0.mk (blk_below (g := gb374) (o := .cells #[.bool a1_0, .string a1_1, .bool a1_2, .int .i64 a1_3, .int .i64 a1_4, .int .i64 a1_5, .int .i64 a1_6, .int .i64 a1_7] 75 (0, 0)) (by (with_reducible repeat (first | refine blk_drewN ?_ _ | refine blk_drew ?_ | refine blk_alloc ?_ _)); refine blk_far ?_ NB374_397.out _; (with_reducible repeat (first | refine blk_drewN ?_ _ | refine blk_drew ?_ | refine blk_alloc ?_ _)); refine blk_far ?_ NB374_397.out _; (with_reducible repeat (first | refine blk_drewN ?_ _ | refine blk_drew ?_ | refine blk_alloc ?_ _)); refine blk_far ?_ NB374_397.out _; (with_reducible repeat (first | refine blk_drewN ?_ _ | refine blk_drew ?_ | refine blk_alloc ?_ _)); refine blk_far ?_ NB374_397.out _; (with_reducible repeat (first | refine blk_drewN ?_ _ | refine blk_drew ?_ | refine blk_alloc ?_ _)); refine blk_far ?_ NB374_397.out _; (with_reducible repeat (first | refine blk_drewN ?_ _ | refine blk_drew ?_ | refine blk_alloc ?_ _)); exact BK374.out) hb); have n1_ := Aside0.mk (blk_below (g := gb381) (o := .cells #[.bool x382000_2, .int .i64 x382001_2, .int .i64 x382002_2, .int .i64 x382003_2, .int .i64 x382004_2] 73 (0, 0)) (by (with_reducible repeat (first | refine blk_drewN ?_ _ | refine blk_drew ?_ | refine blk_alloc ?_ _)); refine blk_far ?_ NB381_397.out _; (with_reducible repeat (first | refine blk_drewN ?_ _ | refine blk_drew ?_ | refine blk_alloc ?_ _)); refine blk_far ?_ NB381_397.out _; (with_reducible repeat (first | refine blk_drewN ?_ _ | refine blk_drew ?_ | refine blk_alloc ?_ _)); refine blk_far ?_ NB381_397.out _; (with_reducible repeat (first | refine blk_drewN ?_ _ | refine blk_drew ?_ | refine blk_alloc ?_ _)); refine blk_far ?_ NB381_397.out _; (with_reducible repeat (first | refine blk_drewN ?_ _ | refine blk_drew ?_ | refine blk_alloc ?_ _)); refine blk_far ?_ NB381_397.out _; (with_reducible repeat (first | refine blk_drewN ?_ _ | refine blk_drew ?_ | refine blk_alloc ?_ _)); exact BK381.out) hb); have n2_ := Aside0.mk (blk_below (g := gb390) (o := .cells #[.bool t384, .int .i64 t385, .int .i64 t386, .int .i64 t387, .int .i64 t388] 73 (0, 0)) (by (with_reducible repeat (first | refine blk_drewN ?_ _ | refine blk_drew ?_ | refine blk_alloc ?_ _)); refine blk_far ?_ NB390_397.out _; (with_reducible repeat (first | refine blk_drewN ?_ _ | refine blk_drew ?_ | refine blk_alloc ?_ _)); refine blk_far ?_ NB390_397.out _; (with_reducible repeat (first | refine blk_drewN ?_ _ | refine blk_drew ?_ | refine blk_alloc ?_ _)); refine blk_far ?_ NB390_397.out _; (with_reducible repeat (first | refine blk_drewN ?_ _ | refine blk_drew ?_ | refine blk_alloc ?_ _)); refine blk_far ?_ NB390_397.out _; (with_reducible repeat (first | refine blk_drewN ?_ _ | refine blk_drew ?_ | refine blk_alloc ?_ _)); refine blk_far ?_ NB390_397.out _; (with_reducible repeat (first | refine blk_drewN ?_ _ | refine blk_drew ?_ | refine blk_alloc ?_ _)); exact BK390.out) hb); have n3_ := Aside0.mk (blk_below (g := gb397) (o := .cells #[.bool t391, .int .i64 t392, .int .i64 t393, .int .i64 t394, .int .i64 t395] 73 (0, 0)) (by (with_reducible repeat (first | refine blk_drewN ?_ _ | refine blk_drew ?_ | refine blk_alloc ?_ _)); refine blk_put (cs := #[.bool t391, .int .i64 t392, .int .i64 t393, .int .i64 t394, .int .i64 0]) ?_ 4 _ rfl; (with_reducible repeat (first | refine blk_drewN ?_ _ | refine blk_drew ?_ | refine blk_alloc ?_ _)); refine blk_put (cs := #[.bool t391, .int .i64 t392, .int .i64 t393, .int .i64 0, .int .i64 0]) ?_ 3 _ rfl; (with_reducible repeat (first | refine blk_drewN ?_ _ | refine blk_drew ?_ | refine blk_alloc ?_ _)); refine blk_put (cs := #[.bool t391, .int .i64 t392, .int .i64 0, .int .i64 0, .int .i64 0]) ?_ 2 _ rfl; (with_reducible repeat (first | refine blk_drewN ?_ _ | refine blk_drew ?_ | refine blk_alloc ?_ _)); refine blk_put (cs := #[.bool t391, .int .i64 0, .int .i64 0, .int .i64 0, .int .i64 0]) ?_ 1 _ rfl; (with_reducible repeat (first | refine blk_drewN ?_ _ | refine blk_drew ?_ | refine blk_alloc ?_ _)); refine blk_put (cs := #[.bool false, .int .i64 0, .int .i64 0, .int .i64 0, .int .i64 0]) ?_ 0 _ rfl; (with_reducible repeat (first | refine blk_drewN ?_ _ | refine blk_drew ?_ | refine blk_alloc ?_ _)); exact BK397.out) hb); have n4_ := Aside0.mk (below_step (by repeat (first | (with_reducible first | exact HB.out | apply below_alloc | apply pw_below_drewN | apply below_drew1 | refine below_set ?_ GE374.out | refine below_set ?_ GE381.out | refine below_set ?_ GE390.out | refine below_set ?_ GE397.out) | exact HB.out)) hb); clear BK374; clear BK381; clear BK390; clear BK397; clear HB; have BK374 := n0_; have BK381 := n1_; have BK390 := n2_; have BK397 := n3_; have HB := n4_; clear n0_ n1_ n2_ n3_ n4_; (try clear hb); (try clear hb2); (try clear hk); (try clear hi); have hcz79_0 : w78.cell? ⟨gb390, 0, none⟩ = some (.bool t384) := (blk_cell BK390.out 0).trans rfl; have hcz79_1 : w78.cell? ⟨gb390, 1, none⟩ = some (.int .i64 t385) := (blk_cell BK390.out 1).trans rfl; have hcz79_2 : w78.cell? ⟨gb390, 2, none⟩ = some (.int .i64 t386) := (blk_cell BK390.out 2).trans rfl; have hcz79_3 : w78.cell? ⟨gb390, 3, none⟩ = some (.int .i64 t387) := (blk_cell BK390.out 3).trans rfl; have hcz79_4 : w78.cell? ⟨gb390, 4, none⟩ = some (.int .i64 t388) := (blk_cell BK390.out 4).trans rfl; have hfz79_0 := blk_frozen BK390.out 0; have hfz79_1 := blk_frozen BK390.out 1; have hfz79_2 := blk_frozen BK390.out 2; have hfz79_3 := blk_frozen BK390.out 3; have hfz79_4 := blk_frozen BK390.out 4; have hcz80_0 : w78.cell? ⟨gb381, 0, none⟩ = some (.bool x382000_2) := (blk_cell BK381.out 0).trans rfl; have hcz80_1 : w78.cell? ⟨gb381, 1, none⟩ = some (.int .i64 x382001_2) := (blk_cell BK381.out 1).trans rfl; have hcz80_2 : w78.cell? ⟨gb381, 2, none⟩ = some (.int .i64 x382002_2) := (blk_cell BK381.out 2).trans rfl; have hcz80_3 : w78.cell? ⟨gb381, 3, none⟩ = some (.int .i64 x382003_2) := (blk_cell BK381.out 3).trans rfl; have hcz80_4 : w78.cell? ⟨gb381, 4, none⟩ = some (.int .i64 x382004_2) := (blk_cell BK381.out 4).trans rfl; have hfz80_0 := blk_frozen BK381.out 0; have hfz80_1 := blk_frozen BK381.out 1; have hfz80_2 := blk_frozen BK381.out 2; have hfz80_3 := blk_frozen BK381.out 3; have hfz80_4 := blk_frozen BK381.out 4))
                          go_roundg k2
                          case measure => have := HJ2.out; have := HK2.out; omega
                          case rel => exact ⟨(wrap64 (x6_2 + 1)), (t384), (t385), (t386), (t387), (t388), (by first | rfl | (simp; done) | (simp [*]; done)), H', ⟨by have := HJ2.out; have := HK2.out; omega⟩, ⟨by (with_reducible repeat (first | refine blk_drewN ?_ _ | refine blk_drew ?_ | refine blk_alloc ?_ _)); refine blk_far ?_ NB374_381.out _; (with_reducible repeat (first | refine blk_drewN ?_ _ | refine blk_drew ?_ | refine blk_alloc ?_ _)); refine blk_far ?_ NB374_381.out _; (with_reducible repeat (first | refine blk_drewN ?_ _ | refine blk_drew ?_ | refine blk_alloc ?_ _)); refine blk_far ?_ NB374_381.out _; (with_reducible repeat (first | refine blk_drewN ?_ _ | refine blk_drew ?_ | refine blk_alloc ?_ _)); refine blk_far ?_ NB374_381.out _; (with_reducible repeat (first | refine blk_drewN ?_ _ | refine blk_drew ?_ | refine blk_alloc ?_ _)); refine blk_far ?_ NB374_381.out _; (with_reducible repeat (first | refine blk_drewN ?_ _ | refine blk_drew ?_ | refine blk_alloc ?_ _)); exact BK374.out⟩, ⟨by (with_reducible repeat (first | refine blk_drewN ?_ _ | refine blk_drew ?_ | refine blk_alloc ?_ _)); refine blk_put (cs := #[.bool t384, .int .i64 t385, .int .i64 t386, .int .i64 t387, .int .i64 x382004_2]) ?_ 4 _ rfl; (with_reducible repeat (first | refine blk_drewN ?_ _ | refine blk_drew ?_ | refine blk_alloc ?_ _)); refine blk_put (cs := #[.bool t384, .int .i64 t385, .int .i64 t386, .int .i64 x382003_2, .int .i64 x382004_2]) ?_ 3 _ rfl; (with_reducible repeat (first | refine blk_drewN ?_ _ | refine blk_drew ?_ | refine blk_alloc ?_ _)); refine blk_put (cs := #[.bool t384, .int .i64 t385, .int .i64 x382002_2, .int .i64 x382003_2, .int .i64 x382004_2]) ?_ 2 _ rfl; (with_reducible repeat (first | refine blk_drewN ?_ _ | refine blk_drew ?_ | refine blk_alloc ?_ _)); refine blk_put (cs := #[.bool t384, .int .i64 x382001_2, .int .i64 x382002_2, .int .i64 x382003_2, .int .i64 x382004_2]) ?_ 1 _ rfl; (with_reducible repeat (first | refine blk_drewN ?_ _ | refine blk_drew ?_ | refine blk_alloc ?_ _)); refine blk_put (cs := #[.bool x382000_2, .int .i64 x382001_2, .int .i64 x382002_2, .int .i64 x382003_2, .int .i64 x382004_2]) ?_ 0 _ rfl; (with_reducible repeat (first | refine blk_drewN ?_ _ | refine blk_drew ?_ | refine blk_alloc ?_ _)); exact BK381.out⟩, ⟨by repeat (first | (with_reducible first | exact HB.out | apply below_alloc | apply pw_below_drewN | apply below_drew1 | refine below_set ?_ GE374.out | refine below_set ?_ GE381.out | refine below_set ?_ GE390.out | refine below_set ?_ GE397.out) | exact HB.out)⟩⟩
                        · rw [if_neg c56] at H
                          exact absurd H (by simp)
                  · replace c27 := Bool.eq_false_iff.mpr c27
                    subst c27
                    have H1 : (none) = some r := by rw [if_neg (show ¬ (false = true) by decide)] at H; exact H
                    clear H
                    have H := H1
                    clear H1
                    exact absurd H (by simp)
                · rw [if_neg c23] at H
                  exact absurd H (by simp)
              · rw [if_neg c22] at H
                have c22b0 : decide (x6_2 < (l0.length : Int)) = false := decide_eq_false c22
                clear c22
                replace H := Option.bind_eq_some_iff.mp H
                obtain ⟨t382, A810, H⟩ := H
                replace H : (some t382) = some r := H
                have A81 := Aside0.mk A810
                clear A810
                obtain rfl := Option.some.inj H
                go_wp2_with (first | ((with_reducible refine gate_callee (f := 50) rfl ?_); refine goesL_ (some 98) rfl rfl Try.func50 (by kernel_rfl) rfl #[] rfl (by (try simp only [List.map_toArray, List.map_cons, List.map_nil]); first | done | rfl | (simp only [List.length_drop, List.length_take]; rfl)) ?_; (with_reducible refine (regimenlaw31_awake.calls k2  t382 _ A81.out).mono ?_); rintro e w82 ⟨rfl, hb⟩; refine ⟨_, rfl, ?_⟩; have n0_ := Aside0.mk (blk_below (g := gb374) (o := .cells #[.bool a1_0, .string a1_1, .bool a1_2, .int .i64 a1_3, .int .i64 a1_4, .int .i64 a1_5, .int .i64 a1_6, .int .i64 a1_7] 75 (0, 0)) (by (with_reducible repeat (first | refine blk_drewN ?_ _ | refine blk_drew ?_ | refine blk_alloc ?_ _)); exact BK374.out) hb); have n1_ := Aside0.mk (blk_below (g := gb381) (o := .cells #[.bool x382000_2, .int .i64 x382001_2, .int .i64 x382002_2, .int .i64 x382003_2, .int .i64 x382004_2] 73 (0, 0)) (by (with_reducible repeat (first | refine blk_drewN ?_ _ | refine blk_drew ?_ | refine blk_alloc ?_ _)); exact BK381.out) hb); have n2_ := Aside0.mk (below_step (by repeat (first | (with_reducible first | exact HB.out | apply below_alloc | apply pw_below_drewN | apply below_drew1 | refine below_set ?_ GE374.out | refine below_set ?_ GE381.out) | exact HB.out)) hb); clear BK374; clear BK381; clear HB; have BK374 := n0_; have BK381 := n1_; have HB := n2_; clear n0_ n1_ n2_; (try clear hb); (try clear hb2); (try clear hk); (try clear hi)))
                go_ret
                exact ⟨by first | rfl | (simp [errW_none, errW_some] <;> rfl) | (simp [*, errW_none, errW_some] <;> rfl), by repeat (first | (with_reducible first | exact HB.out | apply below_alloc | apply pw_below_drewN | apply below_drew1 | refine below_set ?_ GE374.out | refine below_set ?_ GE381.out) | exact HB.out)⟩

/-- THE ONE PURE STATEMENT of regimenlaw31_PlatFalls: yours. -/
def regimenlaw31_PlatFalls.Pure : Prop := ∀ (l0 : List Int) (a1_0 : Bool) (a1_1 : ByteArray) (a1_2 : Bool) (a1_3 : Int) (a1_4 : Int) (a1_5 : Int) (a1_6 : Int) (a1_7 : Int), (l0.length ≤ maxLen ∧ l0.length * 8 ≤ 140737488351232 ∧ ∀ x, x ∈ l0 → (Lit.int .i64 x).wf = true) → (a1_1.size ≤ 140737488351232) → ((Lit.int .i64 a1_3).wf = true) → ((Lit.int .i64 a1_4).wf = true) → ((Lit.int .i64 a1_5).wf = true) → ((Lit.int .i64 a1_6).wf = true) → ((Lit.int .i64 a1_7).wf = true) → ∃ k, regimenlaw31_PlatFalls.f k l0 a1_0 a1_1 a1_2 a1_3 a1_4 a1_5 a1_6 a1_7 = some true
theorem regimenlaw31_PlatFalls.walk (P : regimenlaw31_PlatFalls.Pure) (A0 : Option Addr) (c0 : Nat) (l0 : List Int) (a1_0 : Bool) (a1_1 : ByteArray) (a1_2 : Bool) (a1_3 : Int) (a1_4 : Int) (a1_5 : Int) (a1_6 : Int) (a1_7 : Int) (w : World) (hr0 : Kd.C (Kd.int .i64) w A0 l0.length l0) (hc0 : l0.length ≤ c0) (w0 : l0.length ≤ maxLen ∧ l0.length * 8 ≤ 140737488351232 ∧ ∀ x, x ∈ l0 → (Lit.int .i64 x).wf = true)  (w1_1 : a1_1.size ≤ 140737488351232)  (w1_3 : (Lit.int .i64 a1_3).wf = true) (w1_4 : (Lit.int .i64 a1_4).wf = true) (w1_5 : (Lit.int .i64 a1_5).wf = true) (w1_6 : (Lit.int .i64 a1_6).wf = true) (w1_7 : (Lit.int .i64 a1_7).wf = true) :
    Calls Try.prog 12 #[.slice A0 l0.length c0, .agg #[.bool a1_0, .string a1_1, .bool a1_2, .int .i64 a1_3, .int .i64 a1_4, .int .i64 a1_5, .int .i64 a1_6, .int .i64 a1_7]] w fun e w' => e = .returned (.bool true) ∧ Below w.heap.size w w' := by
  obtain ⟨k, h⟩ := P l0 a1_0 a1_1 a1_2 a1_3 a1_4 a1_5 a1_6 a1_7 w0 w1_1 w1_3 w1_4 w1_5 w1_6 w1_7
  refine (regimenlaw31_PlatFalls.calls k _ _ l0 a1_0 a1_1 a1_2 a1_3 a1_4 a1_5 a1_6 a1_7 true w hr0 hc0 h).mono ?_
  rintro e w' ⟨rfl, hd⟩
  exact ⟨rfl, hd⟩

end Go.Proofs.Ytmakhhgfidgfdaa.PH
