/- Go functions of this seat as plain Lean functions, each with a proof that its call comes to just what that function says, wherever that function says anything: written by a program of this session. -/
import Derived.Test.YtmakhhgfidgfdaaPHx0
import Derived.Test.YtmakhhgfidgfdaaPHx7
import Derived.Test.YtmakhhgfidgfdaaPHx10
namespace Go.Proofs.Ytmakhhgfidgfdaa.PH
open Go.RowKit Go.Proofs.YtmakhhgfidgfdaaW.PrintWords Go.Proofs.YtmakhhgfidgfdaaW.PrintLast Go.Proofs.YtmakhhgfidgfdaaW.PrintMore
attribute [local go_sem] max2_int min2_int max_two min_two max_three min_three max_four min_four   -- for this text's walks alone
set_option linter.unusedVariables false
set_option linter.unusedSimpArgs false

attribute [local go_sem] isSome_setCell idx63_1
/-! ### plat_New: function 51 -/
def plat_New.f  : Option (Bool × Int × Int × Int × Int) := some (false, 0, 0, 0, 4294967296)
set_option maxHeartbeats 8000000 in
set_option maxRecDepth 100000 in
theorem plat_New.calls  (r1 : Bool) (r2 : Int) (r3 : Int) (r4 : Int) (r5 : Int) (w : World) (h : plat_New.f  = some (r1, r2, r3, r4, r5)) :
    Calls Try.prog 51 #[] w fun e w' => e = .returned (.agg #[.bool r1, .int .i64 r2, .int .i64 r3, .int .i64 r4, .int .i64 r5]) ∧ Below w.heap.size w w' := by
  have hu73 := Try.underlying73
  have HB := Aside0.mk (Below.refl w.heap.size w)
  have H : (some (false, 0, 0, 0, 4294967296)) = some (r1, r2, r3, r4, r5) := h
  clear h
  simp only [Option.some.injEq, Prod.mk.injEq] at H
  obtain ⟨rfl, rfl, rfl, rfl, rfl⟩ := H
  go_enter Try.func51, Try.ntmps51
  go_wp2_with (first | ((with_reducible refine gate_dst (N := 0) rfl ?_); refine box_event ?hg (N := 0) ?hd (cs := #[.bool false, .int .i64 0, .int .i64 0, .int .i64 0, .int .i64 0]) (t := 73) ?hr ?_; (case hd => rfl); (case hg => rfl); (case hr => first | (go_simp; done) | (go_simp; rfl)); intro gb350 hg w1 hbox hb; have n0_ := Aside0.mk (below_step (by repeat (first | (with_reducible first | exact HB.out | apply below_alloc | apply pw_below_drewN | apply below_drew1) | exact HB.out)) hb); have n1_ := Aside0.mk (hbox); have n2_ := Aside0.mk ((by rw [hg]; exact (below_size (by repeat (first | (with_reducible first | exact HB.out | apply below_alloc | apply pw_below_drewN | apply below_drew1) | exact HB.out))) : w.heap.size ≤ gb350)); have n3_ := Aside0.mk ((by rw [hg]; exact (below_size (by repeat (first | (with_reducible first | exact HB.out | apply below_alloc | apply pw_below_drewN | apply below_drew1) | exact HB.out))) : w.heap.size ≤ gb350)); clear HB; have HB := n0_; have BK350 := n1_; have GW350 := n2_; have GE350 := n3_; clear n0_ n1_ n2_ n3_; clear hb hbox hg; have hcz2_0 : w1.cell? ⟨gb350, 0, none⟩ = some (.bool false) := (blk_cell BK350.out 0).trans rfl; have hcz2_1 : w1.cell? ⟨gb350, 1, none⟩ = some (.int .i64 0) := (blk_cell BK350.out 1).trans rfl; have hcz2_2 : w1.cell? ⟨gb350, 2, none⟩ = some (.int .i64 0) := (blk_cell BK350.out 2).trans rfl; have hcz2_3 : w1.cell? ⟨gb350, 3, none⟩ = some (.int .i64 0) := (blk_cell BK350.out 3).trans rfl; have hcz2_4 : w1.cell? ⟨gb350, 4, none⟩ = some (.int .i64 0) := (blk_cell BK350.out 4).trans rfl; have hfz2_0 := blk_frozen BK350.out 0; have hfz2_1 := blk_frozen BK350.out 1; have hfz2_2 := blk_frozen BK350.out 2; have hfz2_3 := blk_frozen BK350.out 3; have hfz2_4 := blk_frozen BK350.out 4))
  refine bodyPost_ret (results_cell_row rfl _ _ gb350 73 #[.bool false, .int .i64 0, .int .i64 0, .int .i64 0, .int .i64 4294967296] (0, 0) _ rfl (by (with_reducible repeat (first | refine blk_drewN ?_ _ | refine blk_drew ?_ | refine blk_alloc ?_ _)); refine blk_put (cs := #[.bool false, .int .i64 0, .int .i64 0, .int .i64 0, .int .i64 0]) ?_ 4 _ rfl; (with_reducible repeat (first | refine blk_drewN ?_ _ | refine blk_drew ?_ | refine blk_alloc ?_ _)); refine blk_put (cs := #[.bool false, .int .i64 0, .int .i64 0, .int .i64 0, .int .i64 0]) ?_ 3 _ rfl; (with_reducible repeat (first | refine blk_drewN ?_ _ | refine blk_drew ?_ | refine blk_alloc ?_ _)); refine blk_put (cs := #[.bool false, .int .i64 0, .int .i64 0, .int .i64 0, .int .i64 0]) ?_ 2 _ rfl; (with_reducible repeat (first | refine blk_drewN ?_ _ | refine blk_drew ?_ | refine blk_alloc ?_ _)); refine blk_put (cs := #[.bool false, .int .i64 0, .int .i64 0, .int .i64 0, .int .i64 0]) ?_ 1 _ rfl; (with_reducible repeat (first | refine blk_drewN ?_ _ | refine blk_drew ?_ | refine blk_alloc ?_ _)); refine blk_put (cs := #[.bool false, .int .i64 0, .int .i64 0, .int .i64 0, .int .i64 0]) ?_ 0 _ rfl; (with_reducible repeat (first | refine blk_drewN ?_ _ | refine blk_drew ?_ | refine blk_alloc ?_ _)); exact BK350.out) Try.underlying73 rfl (by kernel_rfl)) rfl ?_
  exact ⟨by first | rfl | (simp [errW_none, errW_some] <;> rfl) | (simp [*, errW_none, errW_some] <;> rfl), by repeat (first | (with_reducible first | exact HB.out | apply below_alloc | apply pw_below_drewN | apply below_drew1 | refine below_set ?_ GE350.out) | exact HB.out)⟩

/-! ### regimenlaw31_awake: function 50 -/
def regimenlaw31_awake.f (k : Nat)  : Option (Bool) := (plat_New.f).bind fun bt352 => ((plat_Take.f k bt352.1 bt352.2.1 bt352.2.2.1 bt352.2.2.2.1 bt352.2.2.2.2 5 false (⟨#[]⟩ : ByteArray) false 2147483648 1 2 0 0).bind fun bt357 => ((plat_Take.f k bt357.1 bt357.2.1 bt357.2.2.1 bt357.2.2.2.1 bt357.2.2.2.2.1 5 false (⟨#[]⟩ : ByteArray) false 2147483648 1 2 0 0).bind fun bt364 => (if bt357.2.2.2.2.2 = true then (none) else (if bt364.2.2.2.2.2 = true then (if bt364.2.2.2.2.1 = 2147483648 then (if bt364.2.2.2.1 = 2 then ((plat_Rate.f k bt364.1 bt364.2.1 bt364.2.2.1 bt364.2.2.2.1 bt364.2.2.2.2.1 8 0).bind fun t371 => (if t371 = 4 then ((plat_Rate.f k bt364.1 bt364.2.1 bt364.2.2.1 bt364.2.2.2.1 bt364.2.2.2.2.1 8 5).bind fun t372 => (if t372 = 5 then ((plat_Check.f k bt364.1 bt364.2.1 bt364.2.2.1 bt364.2.2.2.1 bt364.2.2.2.2.1).bind fun t373 => (some t373)) else (none))) else (none))) else (none)) else (none)) else (none)))))
theorem regimenlaw31_awake.mono : ∀ k, LeO (regimenlaw31_awake.f k ) (regimenlaw31_awake.f (k + 1) ) := by
  intro  k
  unfold regimenlaw31_awake.f
  repeat' first
      | (with_reducible exact plat_Check.mono _ _ _ _ _ _)
      | (with_reducible exact plat_Rate.mono _ _ _ _ _ _ _ _)
      | (with_reducible exact plat_Take.mono _ _ _ _ _ _ _ _ _ _ _ _ _ _ _)
      | (with_reducible exact LeO.refl _)
      | (with_reducible exact LeO.none _)
      | (with_reducible refine LeO.ite ?_ ?_)
      | (with_reducible refine LeO.bind ?_ (fun _ => ?_))
      | exact plat_Check.mono _ _ _ _ _ _
      | exact plat_Rate.mono _ _ _ _ _ _ _ _
      | exact plat_Take.mono _ _ _ _ _ _ _ _ _ _ _ _ _ _ _
      | exact LeO.none _
      | refine LeO.ite ?_ ?_
      | refine LeO.bind ?_ (fun _ => ?_)
def regimenlaw31_awake.T2 : Bool × List (List Nat × List Nat) := (true, [([], []), ([], []), ([0, 1, 0], [0, 1]), ([2], [2]), ([3], [3]), ([3], [3]), ([], []), ([6, 4, 2, 0, 1, 2, 3, 4, 6], [4, 6]), ([5, 7, 0, 1, 2, 3, 4, 5, 6, 7], [5])])
def regimenlaw31_awake.B2 : List Nat := [0, 0, 3, 7, 15, 15, 0, 95, 255]
theorem regimenlaw31_awake.tab2 : rtab .any (opsOf Try.f50 2) = regimenlaw31_awake.T2 := by kernel_rfl
theorem regimenlaw31_awake.bits2 : waitsOk regimenlaw31_awake.T2.2 regimenlaw31_awake.B2 = true := by kernel_rfl
set_option maxHeartbeats 8000000 in
set_option maxRecDepth 100000 in
theorem regimenlaw31_awake.calls (k : Nat)  (r : Bool) (w : World) (h : regimenlaw31_awake.f k  = some r) :
    Calls Try.prog 50 #[] w fun e w' => e = .returned (.bool r) ∧ Below w.heap.size w w' := by
  have hu75 := Try.underlying75
  have hu73 := Try.underlying73
  have HB := Aside0.mk (Below.refl w.heap.size w)
  have H : ((plat_New.f).bind fun bt352 => ((plat_Take.f k bt352.1 bt352.2.1 bt352.2.2.1 bt352.2.2.2.1 bt352.2.2.2.2 5 false (⟨#[]⟩ : ByteArray) false 2147483648 1 2 0 0).bind fun bt357 => ((plat_Take.f k bt357.1 bt357.2.1 bt357.2.2.1 bt357.2.2.2.1 bt357.2.2.2.2.1 5 false (⟨#[]⟩ : ByteArray) false 2147483648 1 2 0 0).bind fun bt364 => (if bt357.2.2.2.2.2 = true then (none) else (if bt364.2.2.2.2.2 = true then (if bt364.2.2.2.2.1 = 2147483648 then (if bt364.2.2.2.1 = 2 then ((plat_Rate.f k bt364.1 bt364.2.1 bt364.2.2.1 bt364.2.2.2.1 bt364.2.2.2.2.1 8 0).bind fun t371 => (if t371 = 4 then ((plat_Rate.f k bt364.1 bt364.2.1 bt364.2.2.1 bt364.2.2.2.1 bt364.2.2.2.2.1 8 5).bind fun t372 => (if t372 = 5 then ((plat_Check.f k bt364.1 bt364.2.1 bt364.2.2.1 bt364.2.2.2.1 bt364.2.2.2.2.1).bind fun t373 => (some t373)) else (none))) else (none))) else (none)) else (none)) else (none)))))) = some r := h
  clear h
  replace H := Option.bind_eq_some_iff.mp H
  obtain ⟨⟨t352, t353, t354, t355, t356⟩, A10, H⟩ := H
  replace H : ((plat_Take.f k t352 t353 t354 t355 t356 5 false (⟨#[]⟩ : ByteArray) false 2147483648 1 2 0 0).bind fun bt357 => ((plat_Take.f k bt357.1 bt357.2.1 bt357.2.2.1 bt357.2.2.2.1 bt357.2.2.2.2.1 5 false (⟨#[]⟩ : ByteArray) false 2147483648 1 2 0 0).bind fun bt364 => (if bt357.2.2.2.2.2 = true then (none) else (if bt364.2.2.2.2.2 = true then (if bt364.2.2.2.2.1 = 2147483648 then (if bt364.2.2.2.1 = 2 then ((plat_Rate.f k bt364.1 bt364.2.1 bt364.2.2.1 bt364.2.2.2.1 bt364.2.2.2.2.1 8 0).bind fun t371 => (if t371 = 4 then ((plat_Rate.f k bt364.1 bt364.2.1 bt364.2.2.1 bt364.2.2.2.1 bt364.2.2.2.2.1 8 5).bind fun t372 => (if t372 = 5 then ((plat_Check.f k bt364.1 bt364.2.1 bt364.2.2.1 bt364.2.2.2.1 bt364.2.2.2.2.1).bind fun t373 => (some t373)) else (none))) else (none))) else (none)) else (none)) else (none))))) = some r := H
  have A1 := Aside0.mk A10
  clear A10
  replace H := Option.bind_eq_some_iff.mp H
  obtain ⟨⟨t357, t358, t359, t360, t361, t362⟩, A20, H⟩ := H
  replace H : ((plat_Take.f k t357 t358 t359 t360 t361 5 false (⟨#[]⟩ : ByteArray) false 2147483648 1 2 0 0).bind fun bt364 => (if t362 = true then (none) else (if bt364.2.2.2.2.2 = true then (if bt364.2.2.2.2.1 = 2147483648 then (if bt364.2.2.2.1 = 2 then ((plat_Rate.f k bt364.1 bt364.2.1 bt364.2.2.1 bt364.2.2.2.1 bt364.2.2.2.2.1 8 0).bind fun t371 => (if t371 = 4 then ((plat_Rate.f k bt364.1 bt364.2.1 bt364.2.2.1 bt364.2.2.2.1 bt364.2.2.2.2.1 8 5).bind fun t372 => (if t372 = 5 then ((plat_Check.f k bt364.1 bt364.2.1 bt364.2.2.1 bt364.2.2.2.1 bt364.2.2.2.2.1).bind fun t373 => (some t373)) else (none))) else (none))) else (none)) else (none)) else (none)))) = some r := H
  have A2 := Aside0.mk A20
  clear A20
  replace H := Option.bind_eq_some_iff.mp H
  obtain ⟨⟨t364, t365, t366, t367, t368, t369⟩, A30, H⟩ := H
  replace H : (if t362 = true then (none) else (if t369 = true then (if t368 = 2147483648 then (if t367 = 2 then ((plat_Rate.f k t364 t365 t366 t367 t368 8 0).bind fun t371 => (if t371 = 4 then ((plat_Rate.f k t364 t365 t366 t367 t368 8 5).bind fun t372 => (if t372 = 5 then ((plat_Check.f k t364 t365 t366 t367 t368).bind fun t373 => (some t373)) else (none))) else (none))) else (none)) else (none)) else (none))) = some r := H
  have A3 := Aside0.mk A30
  clear A30
  by_cases c4 : t362 = true
  · subst c4
    have H1 : (none) = some r := by rw [if_pos rfl] at H; exact H
    clear H
    have H := H1
    clear H1
    exact absurd H (by simp)
  · replace c4 := Bool.eq_false_iff.mpr c4
    subst c4
    have H1 : (if t369 = true then (if t368 = 2147483648 then (if t367 = 2 then ((plat_Rate.f k t364 t365 t366 t367 t368 8 0).bind fun t371 => (if t371 = 4 then ((plat_Rate.f k t364 t365 t366 t367 t368 8 5).bind fun t372 => (if t372 = 5 then ((plat_Check.f k t364 t365 t366 t367 t368).bind fun t373 => (some t373)) else (none))) else (none))) else (none)) else (none)) else (none)) = some r := by rw [if_neg (show ¬ (false = true) by decide)] at H; exact H
    clear H
    have H := H1
    clear H1
    by_cases c5 : t369 = true
    · subst c5
      have H1 : (if t368 = 2147483648 then (if t367 = 2 then ((plat_Rate.f k t364 t365 t366 t367 t368 8 0).bind fun t371 => (if t371 = 4 then ((plat_Rate.f k t364 t365 t366 t367 t368 8 5).bind fun t372 => (if t372 = 5 then ((plat_Check.f k t364 t365 t366 t367 t368).bind fun t373 => (some t373)) else (none))) else (none))) else (none)) else (none)) = some r := by rw [if_pos rfl] at H; exact H
      clear H
      have H := H1
      clear H1
      by_cases c6 : t368 = 2147483648
      · rw [if_pos c6] at H
        have c6b0 : (t368 == 2147483648) = true := beq_iff_eq.mpr c6
        have c6b1 : (t368 != 2147483648) = false := bne_eq_false_iff_eq.mpr c6
        clear c6
        by_cases c7 : t367 = 2
        · rw [if_pos c7] at H
          have c7b0 : (t367 == 2) = true := beq_iff_eq.mpr c7
          have c7b1 : (t367 != 2) = false := bne_eq_false_iff_eq.mpr c7
          clear c7
          replace H := Option.bind_eq_some_iff.mp H
          obtain ⟨t371, A80, H⟩ := H
          replace H : (if t371 = 4 then ((plat_Rate.f k t364 t365 t366 t367 t368 8 5).bind fun t372 => (if t372 = 5 then ((plat_Check.f k t364 t365 t366 t367 t368).bind fun t373 => (some t373)) else (none))) else (none)) = some r := H
          have A8 := Aside0.mk A80
          clear A80
          by_cases c9 : t371 = 4
          · rw [if_pos c9] at H
            have c9b0 : (t371 == 4) = true := beq_iff_eq.mpr c9
            have c9b1 : (t371 != 4) = false := bne_eq_false_iff_eq.mpr c9
            clear c9
            replace H := Option.bind_eq_some_iff.mp H
            obtain ⟨t372, A100, H⟩ := H
            replace H : (if t372 = 5 then ((plat_Check.f k t364 t365 t366 t367 t368).bind fun t373 => (some t373)) else (none)) = some r := H
            have A10 := Aside0.mk A100
            clear A100
            by_cases c11 : t372 = 5
            · rw [if_pos c11] at H
              have c11b0 : (t372 == 5) = true := beq_iff_eq.mpr c11
              have c11b1 : (t372 != 5) = false := bne_eq_false_iff_eq.mpr c11
              clear c11
              replace H := Option.bind_eq_some_iff.mp H
              obtain ⟨t373, A120, H⟩ := H
              replace H : (some t373) = some r := H
              have A12 := Aside0.mk A120
              clear A120
              obtain rfl := Option.some.inj H
              go_enter Try.func50, Try.ntmps50
              try go_wp2_with (first | ((with_reducible refine gate_dst (N := 1) rfl ?_); refine box_event ?hg (N := 1) ?hd (cs := #[.bool false, .string (⟨#[]⟩ : ByteArray), .bool false, .int .i64 0, .int .i64 0, .int .i64 0, .int .i64 0, .int .i64 0]) (t := 75) ?hr ?_; (case hd => rfl); (case hg => rfl); (case hr => first | (go_simp; done) | (go_simp; rfl)); intro gb351 hg w13 hbox hb; have n0_ := Aside0.mk (below_step (by repeat (first | (with_reducible first | exact HB.out | apply below_alloc | apply pw_below_drewN | apply below_drew1) | exact HB.out)) hb); have n1_ := Aside0.mk (hbox); have n2_ := Aside0.mk ((by rw [hg]; exact (below_size (by repeat (first | (with_reducible first | exact HB.out | apply below_alloc | apply pw_below_drewN | apply below_drew1) | exact HB.out))) : w.heap.size ≤ gb351)); have n3_ := Aside0.mk ((by rw [hg]; exact (below_size (by repeat (first | (with_reducible first | exact HB.out | apply below_alloc | apply pw_below_drewN | apply below_drew1) | exact HB.out))) : w.heap.size ≤ gb351)); clear HB; have HB := n0_; have BK351 := n1_; have GW351 := n2_; have GE351 := n3_; clear n0_ n1_ n2_ n3_; clear hb hbox hg; have hcz14_0 : w13.cell? ⟨gb351, 0, none⟩ = some (.bool false) := (blk_cell BK351.out 0).trans rfl; have hcz14_1 : w13.cell? ⟨gb351, 1, none⟩ = some (.string (⟨#[]⟩ : ByteArray)) := (blk_cell BK351.out 1).trans rfl; have hcz14_2 : w13.cell? ⟨gb351, 2, none⟩ = some (.bool false) := (blk_cell BK351.out 2).trans rfl; have hcz14_3 : w13.cell? ⟨gb351, 3, none⟩ = some (.int .i64 0) := (blk_cell BK351.out 3).trans rfl; have hcz14_4 : w13.cell? ⟨gb351, 4, none⟩ = some (.int .i64 0) := (blk_cell BK351.out 4).trans rfl; have hcz14_5 : w13.cell? ⟨gb351, 5, none⟩ = some (.int .i64 0) := (blk_cell BK351.out 5).trans rfl; have hcz14_6 : w13.cell? ⟨gb351, 6, none⟩ = some (.int .i64 0) := (blk_cell BK351.out 6).trans rfl; have hcz14_7 : w13.cell? ⟨gb351, 7, none⟩ = some (.int .i64 0) := (blk_cell BK351.out 7).trans rfl; have hfz14_0 := blk_frozen BK351.out 0; have hfz14_1 := blk_frozen BK351.out 1; have hfz14_2 := blk_frozen BK351.out 2; have hfz14_3 := blk_frozen BK351.out 3; have hfz14_4 := blk_frozen BK351.out 4; have hfz14_5 := blk_frozen BK351.out 5; have hfz14_6 := blk_frozen BK351.out 6; have hfz14_7 := blk_frozen BK351.out 7))
              have n0_ : Aside0 (((((((((w13.setCell ⟨gb351, 0, none⟩ (.bool false)).setCell ⟨gb351, 1, none⟩ (.string (⟨#[]⟩ : ByteArray))).setCell ⟨gb351, 2, none⟩ (.bool false)).setCell ⟨gb351, 3, none⟩ (.int .i64 2147483648)).setCell ⟨gb351, 4, none⟩ (.int .i64 1)).setCell ⟨gb351, 5, none⟩ (.int .i64 2)).setCell ⟨gb351, 6, none⟩ (.int .i64 0)).setCell ⟨gb351, 7, none⟩ (.int .i64 0)).heap[gb351]? = some (.cells #[.bool false, .string (⟨#[]⟩ : ByteArray), .bool false, .int .i64 2147483648, .int .i64 1, .int .i64 2, .int .i64 0, .int .i64 0] 75 (0, 0))) := ⟨by (with_reducible repeat (first | refine blk_drewN ?_ _ | refine blk_drew ?_ | refine blk_alloc ?_ _)); refine blk_put (cs := #[.bool false, .string (⟨#[]⟩ : ByteArray), .bool false, .int .i64 2147483648, .int .i64 1, .int .i64 2, .int .i64 0, .int .i64 0]) ?_ 7 _ rfl; (with_reducible repeat (first | refine blk_drewN ?_ _ | refine blk_drew ?_ | refine blk_alloc ?_ _)); refine blk_put (cs := #[.bool false, .string (⟨#[]⟩ : ByteArray), .bool false, .int .i64 2147483648, .int .i64 1, .int .i64 2, .int .i64 0, .int .i64 0]) ?_ 6 _ rfl; (with_reducible repeat (first | refine blk_drewN ?_ _ | refine blk_drew ?_ | refine blk_alloc ?_ _)); refine blk_put (cs := #[.bool false, .string (⟨#[]⟩ : ByteArray), .bool false, .int .i64 2147483648, .int .i64 1, .int .i64 0, .int .i64 0, .int .i64 0]) ?_ 5 _ rfl; (with_reducible repeat (first | refine blk_drewN ?_ _ | refine blk_drew ?_ | refine blk_alloc ?_ _)); refine blk_put (cs := #[.bool false, .string (⟨#[]⟩ : ByteArray), .bool false, .int .i64 2147483648, .int .i64 0, .int .i64 0, .int .i64 0, .int .i64 0]) ?_ 4 _ rfl; (with_reducible repeat (first | refine blk_drewN ?_ _ | refine blk_drew ?_ | refine blk_alloc ?_ _)); refine blk_put (cs := #[.bool false, .string (⟨#[]⟩ : ByteArray), .bool false, .int .i64 0, .int .i64 0, .int .i64 0, .int .i64 0, .int .i64 0]) ?_ 3 _ rfl; (with_reducible repeat (first | refine blk_drewN ?_ _ | refine blk_drew ?_ | refine blk_alloc ?_ _)); refine blk_put (cs := #[.bool false, .string (⟨#[]⟩ : ByteArray), .bool false, .int .i64 0, .int .i64 0, .int .i64 0, .int .i64 0, .int .i64 0]) ?_ 2 _ rfl; (with_reducible repeat (first | refine blk_drewN ?_ _ | refine blk_drew ?_ | refine blk_alloc ?_ _)); refine blk_put (cs := #[.bool false, .string (⟨#[]⟩ : ByteArray), .bool false, .int .i64 0, .int .i64 0, .int .i64 0, .int .i64 0, .int .i64 0]) ?_ 1 _ rfl; (with_reducible repeat (first | refine blk_drewN ?_ _ | refine blk_drew ?_ | refine blk_alloc ?_ _)); refine blk_put (cs := #[.bool false, .string (⟨#[]⟩ : ByteArray), .bool false, .int .i64 0, .int .i64 0, .int .i64 0, .int .i64 0, .int .i64 0]) ?_ 0 _ rfl; (with_reducible repeat (first | refine blk_drewN ?_ _ | refine blk_drew ?_ | refine blk_alloc ?_ _)); exact BK351.out⟩
              have n1_ : Aside0 (Below w.heap.size w ((((((((w13.setCell ⟨gb351, 0, none⟩ (.bool false)).setCell ⟨gb351, 1, none⟩ (.string (⟨#[]⟩ : ByteArray))).setCell ⟨gb351, 2, none⟩ (.bool false)).setCell ⟨gb351, 3, none⟩ (.int .i64 2147483648)).setCell ⟨gb351, 4, none⟩ (.int .i64 1)).setCell ⟨gb351, 5, none⟩ (.int .i64 2)).setCell ⟨gb351, 6, none⟩ (.int .i64 0)).setCell ⟨gb351, 7, none⟩ (.int .i64 0))) := ⟨by repeat (first | (with_reducible first | exact HB.out | apply below_alloc | apply pw_below_drewN | apply below_drew1 | refine below_set ?_ GE351.out) | exact HB.out)⟩
              (try clear BK351)
              (try clear HB)
              generalize ((((((((w13.setCell ⟨gb351, 0, none⟩ (.bool false)).setCell ⟨gb351, 1, none⟩ (.string (⟨#[]⟩ : ByteArray))).setCell ⟨gb351, 2, none⟩ (.bool false)).setCell ⟨gb351, 3, none⟩ (.int .i64 2147483648)).setCell ⟨gb351, 4, none⟩ (.int .i64 1)).setCell ⟨gb351, 5, none⟩ (.int .i64 2)).setCell ⟨gb351, 6, none⟩ (.int .i64 0)).setCell ⟨gb351, 7, none⟩ (.int .i64 0)) = w15 at n0_ n1_ ⊢
              have BK351 := n0_
              have HB := n1_
              clear n0_ n1_
              have n0_ := Aside0.mk (blk_drew BK351.out)
              have n1_ := Aside0.mk (below_drew1 HB.out)
              clear BK351
              clear HB
              have BK351 := n0_
              have HB := n1_
              clear n0_ n1_
              refine start_ (n := 9) (S := fun w' => w'.cell? ⟨gb351, 0, none⟩ = some (.bool false) ∧ w'.cell? ⟨gb351, 1, none⟩ = some (.string (⟨#[]⟩ : ByteArray)) ∧ w'.cell? ⟨gb351, 2, none⟩ = some (.bool false) ∧ w'.cell? ⟨gb351, 3, none⟩ = some (.int .i64 2147483648) ∧ w'.cell? ⟨gb351, 4, none⟩ = some (.int .i64 1) ∧ w'.cell? ⟨gb351, 5, none⟩ = some (.int .i64 2) ∧ w'.cell? ⟨gb351, 6, none⟩ = some (.int .i64 0) ∧ w'.cell? ⟨gb351, 7, none⟩ = some (.int .i64 0)) (ds := []) #[false, false, false, false, false, false, false, false, false] (by kernel_rfl) rfl rfl ⟨(blk_cell BK351.out 0).trans rfl, (blk_cell BK351.out 1).trans rfl, (blk_cell BK351.out 2).trans rfl, (blk_cell BK351.out 3).trans rfl, (blk_cell BK351.out 4).trans rfl, (blk_cell BK351.out 5).trans rfl, (blk_cell BK351.out 6).trans rfl, (blk_cell BK351.out 7).trans rfl⟩ (fun hHeld => ?_); refine with_tabW regimenlaw31_awake.tab2 regimenlaw31_awake.bits2 (fun HT_ HW_ => ?_)
              generalize w15.drew = w16 at BK351 HB hHeld ⊢
              refine take_ (i := 1) (N := some 9) (v := ?_) (a' := ?_) #[false, true, false, false, false, false, false, false, false] rfl rfl (take_ofW HT_.out HW_.out (by kernel_rfl)) (fun _ _ _ h => h) (Or.inl ⟨by rfl, ?_⟩) hHeld ?_ ?_
              rotate_left
              · rintro w' ⟨s0, s1, s2, s3, s4, s5, s6, s7⟩
                go_simp
                with_reducible rfl
              rotate_left
              · simp only [Act.put, List.setIfInBounds_toArray, List.set_cons_zero, List.set_cons_succ, i64_w, i32_w]
                rfl
              refine join_ (σ := Nat) 2 #[true, true, true, true, true, true, true, false, false] (fun s_ => [(8, .agg #[.bool t352, .int .i64 t353, .int .i64 t354, .int .i64 t355, .int .i64 t356]), (10, .tuple #[.agg #[.bool t357, .int .i64 t358, .int .i64 t359, .int .i64 t360, .int .i64 t361], .bool false]), (2, .pointer (some ⟨s_, 0, none⟩)), (7, .tuple #[.agg #[.bool t357, .int .i64 t358, .int .i64 t359, .int .i64 t360, .int .i64 t361], .bool false]), (11, .agg #[.bool t357, .int .i64 t358, .int .i64 t359, .int .i64 t360, .int .i64 t361]), (12, .bool false)]) (fun s_ w' => (w'.cell? ⟨gb351, 0, none⟩ = some (.bool false) ∧ w'.cell? ⟨gb351, 1, none⟩ = some (.string (⟨#[]⟩ : ByteArray)) ∧ w'.cell? ⟨gb351, 2, none⟩ = some (.bool false) ∧ w'.cell? ⟨gb351, 3, none⟩ = some (.int .i64 2147483648) ∧ w'.cell? ⟨gb351, 4, none⟩ = some (.int .i64 1) ∧ w'.cell? ⟨gb351, 5, none⟩ = some (.int .i64 2) ∧ w'.cell? ⟨gb351, 6, none⟩ = some (.int .i64 0) ∧ w'.cell? ⟨gb351, 7, none⟩ = some (.int .i64 0)) ∧ (w'.heap[gb351]? = some (.cells #[.bool false, .string (⟨#[]⟩ : ByteArray), .bool false, .int .i64 2147483648, .int .i64 1, .int .i64 2, .int .i64 0, .int .i64 0] 75 (0, 0))) ∧ (w'.heap[s_]? = some (.cells #[.bool false, .int .i64 0, .int .i64 0, .int .i64 0, .int .i64 0] 73 (0, 0))) ∧ (w.heap.size ≤ s_) ∧ (w.heap.size ≤ s_) ∧ (gb351 ≠ s_) ∧ (s_ ≠ gb351) ∧ (Below w.heap.size w w')) ?_ ?_
              rotate_left
              · intro hCont
                refine two_ (i := 0) (j := 6) (Ni := some 8) (Nj := some 2) #[true, true, false, false, false, false, false, false, false] #[false, true, false, false, false, false, true, false, false] rfl rfl rfl rfl (two_of HT_.out (by kernel_rfl)) (by decide) (by decide) (fun K hK => ?_) (fun K hK => ?_)
                · skip
                  refine goes_ Try.func51 (by kernel_rfl) rfl #[] (by rfl) rfl rfl (by (try simp only [List.map_toArray, List.map_cons, List.map_nil]); first | done | rfl | (simp only [List.length_drop, List.length_take]; rfl)) ?_
                  with_reducible refine (plat_New.calls  t352 t353 t354 t355 t356 _ A1.out).mono ?_
                  rintro e w17 ⟨rfl, hb⟩
                  refine ⟨_, rfl, ?_⟩
                  have n0_ := Aside0.mk (blk_below (g := gb351) (o := .cells #[.bool false, .string (⟨#[]⟩ : ByteArray), .bool false, .int .i64 2147483648, .int .i64 1, .int .i64 2, .int .i64 0, .int .i64 0] 75 (0, 0)) (by (with_reducible repeat (first | refine blk_drewN ?_ _ | refine blk_drew ?_ | refine blk_alloc ?_ _)); exact BK351.out) hb)
                  have n1_ := Aside0.mk (below_step (by repeat (first | (with_reducible first | exact HB.out | apply below_alloc | apply pw_below_drewN | apply below_drew1 | refine below_set ?_ GE351.out) | exact HB.out)) hb)
                  clear BK351
                  clear HB
                  have BK351 := n0_
                  have HB := n1_
                  clear n0_ n1_
                  (try clear hb)
                  (try clear hb2)
                  (try clear hk)
                  (try clear hi)
                  refine hK.out _ _ ⟨(blk_cell BK351.out 0).trans rfl, (blk_cell BK351.out 1).trans rfl, (blk_cell BK351.out 2).trans rfl, (blk_cell BK351.out 3).trans rfl, (blk_cell BK351.out 4).trans rfl, (blk_cell BK351.out 5).trans rfl, (blk_cell BK351.out 6).trans rfl, (blk_cell BK351.out 7).trans rfl⟩ (fun hHeld => ?_)
                  clear hK K
                  refine norm_ (a' := ?_) ?_ ?_
                  rotate_left
                  · show Act.put _ (some 8) _ = _
                    simp only [Act.put, List.setIfInBounds_toArray, List.set_cons_zero, List.set_cons_succ, i64_w, i32_w]
                    rfl
                  refine two_ (i := 2) (j := 6) (Ni := some 10) (Nj := some 2) #[true, true, true, false, false, false, false, false, false] #[true, true, false, false, false, false, true, false, false] rfl rfl rfl rfl (two_of HT_.out (by kernel_rfl)) (by decide) (by decide) (fun K hK => ?_) (fun K hK => ?_)
                  · skip
                    refine goes_ Try.func44 (by kernel_rfl) rfl #[.agg #[.bool t352, .int .i64 t353, .int .i64 t354, .int .i64 t355, .int .i64 t356], .int .i64 5, .agg #[.bool false, .string (⟨#[]⟩ : ByteArray), .bool false, .int .i64 2147483648, .int .i64 1, .int .i64 2, .int .i64 0, .int .i64 0]] (by rfl) rfl rfl (by (try simp only [List.map_toArray, List.map_cons, List.map_nil]); first | done | rfl | (simp only [List.length_drop, List.length_take]; rfl)) ?_
                    with_reducible refine (plat_Take.calls k t352 t353 t354 t355 t356 5 false (⟨#[]⟩ : ByteArray) false 2147483648 1 2 0 0 t357 t358 t359 t360 t361 false _ A2.out).mono ?_
                    rintro e w18 ⟨rfl, hb⟩
                    refine ⟨_, rfl, ?_⟩
                    have n0_ := Aside0.mk (blk_below (g := gb351) (o := .cells #[.bool false, .string (⟨#[]⟩ : ByteArray), .bool false, .int .i64 2147483648, .int .i64 1, .int .i64 2, .int .i64 0, .int .i64 0] 75 (0, 0)) (by (with_reducible repeat (first | refine blk_drewN ?_ _ | refine blk_drew ?_ | refine blk_alloc ?_ _)); exact BK351.out) hb)
                    have n1_ := Aside0.mk (below_step (by repeat (first | (with_reducible first | exact HB.out | apply below_alloc | apply pw_below_drewN | apply below_drew1 | refine below_set ?_ GE351.out) | exact HB.out)) hb)
                    clear BK351
                    clear HB
                    have BK351 := n0_
                    have HB := n1_
                    clear n0_ n1_
                    (try clear hb)
                    (try clear hb2)
                    (try clear hk)
                    (try clear hi)
                    refine hK.out _ _ ⟨(blk_cell BK351.out 0).trans rfl, (blk_cell BK351.out 1).trans rfl, (blk_cell BK351.out 2).trans rfl, (blk_cell BK351.out 3).trans rfl, (blk_cell BK351.out 4).trans rfl, (blk_cell BK351.out 5).trans rfl, (blk_cell BK351.out 6).trans rfl, (blk_cell BK351.out 7).trans rfl⟩ (fun hHeld => ?_)
                    clear hK K
                    refine norm_ (a' := ?_) ?_ ?_
                    rotate_left
                    · show Act.put _ (some 10) _ = _
                      simp only [Act.put, List.setIfInBounds_toArray, List.set_cons_zero, List.set_cons_succ, i64_w, i32_w]
                      rfl
                    refine pure_ (i := 3) (N := some 7) (v := ?_) (a' := ?_) #[true, true, true, true, false, false, false, false, false] rfl rfl (any_of HT_.out (by kernel_rfl)) (fun _ _ _ h => h) (Or.inl ⟨by rfl, ?_⟩) ?_ ?_
                    rotate_left
                    · intro w'
                      go_simp
                      with_reducible rfl
                    rotate_left
                    · simp only [Act.put, List.setIfInBounds_toArray, List.set_cons_zero, List.set_cons_succ, i64_w, i32_w]
                      rfl
                    refine pure_ (i := 4) (N := some 11) (v := ?_) (a' := ?_) #[true, true, true, true, true, false, false, false, false] rfl rfl (any_of HT_.out (by kernel_rfl)) (fun _ _ _ h => h) (Or.inl ⟨by rfl, ?_⟩) ?_ ?_
                    rotate_left
                    · intro w'
                      go_simp
                      with_reducible rfl
                    rotate_left
                    · simp only [Act.put, List.setIfInBounds_toArray, List.set_cons_zero, List.set_cons_succ, i64_w, i32_w]
                      rfl
                    refine pure_ (i := 5) (N := some 12) (v := ?_) (a' := ?_) #[true, true, true, true, true, true, false, false, false] rfl rfl (any_of HT_.out (by kernel_rfl)) (fun _ _ _ h => h) (Or.inl ⟨by rfl, ?_⟩) ?_ ?_
                    rotate_left
                    · intro w'
                      go_simp
                      with_reducible rfl
                    rotate_left
                    · simp only [Act.put, List.setIfInBounds_toArray, List.set_cons_zero, List.set_cons_succ, i64_w, i32_w]
                      rfl
                    refine one_ (i := 6) (N := some 2) #[true, true, true, true, true, true, true, false, false] rfl rfl (one_of HT_.out (by kernel_rfl)) (by decide) (fun K hK => ?_)
                    refine box_step ?hg (N := 2) ?hd (cs := #[.bool false, .int .i64 0, .int .i64 0, .int .i64 0, .int .i64 0]) (t := 73) ?hr ?_; (case hd => rfl); (case hg => rfl); (case hr => first | (go_simp; done) | (go_simp; rfl))
                    intro gb363 hg w19 hbox hb
                    have n0_ := Aside0.mk (blk_below (g := gb351) (o := .cells #[.bool false, .string (⟨#[]⟩ : ByteArray), .bool false, .int .i64 2147483648, .int .i64 1, .int .i64 2, .int .i64 0, .int .i64 0] 75 (0, 0)) (by (with_reducible repeat (first | refine blk_drewN ?_ _ | refine blk_drew ?_ | refine blk_alloc ?_ _)); exact BK351.out) hb)
                    have n1_ := Aside0.mk (below_step (by repeat (first | (with_reducible first | exact HB.out | apply below_alloc | apply pw_below_drewN | apply below_drew1 | refine below_set ?_ GE351.out) | exact HB.out)) hb)
                    have n2_ := Aside0.mk (hbox)
                    have n3_ := Aside0.mk ((by rw [hg]; exact (below_size (by repeat (first | (with_reducible first | exact HB.out | apply below_alloc | apply pw_below_drewN | apply below_drew1 | refine below_set ?_ GE351.out) | exact HB.out))) : w.heap.size ≤ gb363))
                    have n4_ := Aside0.mk ((by rw [hg]; exact (below_size (by repeat (first | (with_reducible first | exact HB.out | apply below_alloc | apply pw_below_drewN | apply below_drew1 | refine below_set ?_ GE351.out) | exact HB.out))) : w.heap.size ≤ gb363))
                    have n5_ := Aside0.mk ((by rw [hg]; exact Nat.ne_of_lt (blk_lt (g := gb351) (o := .cells #[.bool false, .string (⟨#[]⟩ : ByteArray), .bool false, .int .i64 2147483648, .int .i64 1, .int .i64 2, .int .i64 0, .int .i64 0] 75 (0, 0)) (by (with_reducible repeat (first | refine blk_drewN ?_ _ | refine blk_drew ?_ | refine blk_alloc ?_ _)); exact BK351.out)) : gb351 ≠ gb363))
                    have n6_ := Aside0.mk ((by rw [hg]; exact Nat.ne_of_gt (blk_lt (g := gb351) (o := .cells #[.bool false, .string (⟨#[]⟩ : ByteArray), .bool false, .int .i64 2147483648, .int .i64 1, .int .i64 2, .int .i64 0, .int .i64 0] 75 (0, 0)) (by (with_reducible repeat (first | refine blk_drewN ?_ _ | refine blk_drew ?_ | refine blk_alloc ?_ _)); exact BK351.out)) : gb363 ≠ gb351))
                    clear BK351
                    clear HB
                    have BK351 := n0_
                    have HB := n1_
                    have BK363 := n2_
                    have GW363 := n3_
                    have GE363 := n4_
                    have NB351_363 := n5_
                    have NB363_351 := n6_
                    clear n0_ n1_ n2_ n3_ n4_ n5_ n6_
                    clear hb hbox hg
                    refine hK.out _ _ ⟨(blk_cell BK351.out 0).trans rfl, (blk_cell BK351.out 1).trans rfl, (blk_cell BK351.out 2).trans rfl, (blk_cell BK351.out 3).trans rfl, (blk_cell BK351.out 4).trans rfl, (blk_cell BK351.out 5).trans rfl, (blk_cell BK351.out 6).trans rfl, (blk_cell BK351.out 7).trans rfl⟩ (fun hHeld => ?_)
                    clear hK K
                    refine norm_ (a' := ?_) ?_ ?_
                    rotate_left
                    · show Act.put _ (some 2) _ = _
                      simp only [Act.put, List.setIfInBounds_toArray, List.set_cons_zero, List.set_cons_succ, i64_w, i32_w]
                      rfl
                    exact norm_ (by simp only [putAll, Act.put, List.setIfInBounds_toArray, List.set_cons_zero, List.set_cons_succ]) (hCont (gb363) _ ⟨hHeld, (by (with_reducible repeat (first | refine blk_drewN ?_ _ | refine blk_drew ?_ | refine blk_alloc ?_ _)); exact BK351.out), (by (with_reducible repeat (first | refine blk_drewN ?_ _ | refine blk_drew ?_ | refine blk_alloc ?_ _)); exact BK363.out), GW363.out, GE363.out, NB351_363.out, NB363_351.out, (by repeat (first | (with_reducible first | exact HB.out | apply below_alloc | apply pw_below_drewN | apply below_drew1 | refine below_set ?_ GE351.out | refine below_set ?_ GE363.out) | exact HB.out))⟩)
                  · skip
                    refine box_step ?hg (N := 2) ?hd (cs := #[.bool false, .int .i64 0, .int .i64 0, .int .i64 0, .int .i64 0]) (t := 73) ?hr ?_; (case hd => rfl); (case hg => rfl); (case hr => first | (go_simp; done) | (go_simp; rfl))
                    intro gb363 hg w18 hbox hb
                    have n0_ := Aside0.mk (blk_below (g := gb351) (o := .cells #[.bool false, .string (⟨#[]⟩ : ByteArray), .bool false, .int .i64 2147483648, .int .i64 1, .int .i64 2, .int .i64 0, .int .i64 0] 75 (0, 0)) (by (with_reducible repeat (first | refine blk_drewN ?_ _ | refine blk_drew ?_ | refine blk_alloc ?_ _)); exact BK351.out) hb)
                    have n1_ := Aside0.mk (below_step (by repeat (first | (with_reducible first | exact HB.out | apply below_alloc | apply pw_below_drewN | apply below_drew1 | refine below_set ?_ GE351.out) | exact HB.out)) hb)
                    have n2_ := Aside0.mk (hbox)
                    have n3_ := Aside0.mk ((by rw [hg]; exact (below_size (by repeat (first | (with_reducible first | exact HB.out | apply below_alloc | apply pw_below_drewN | apply below_drew1 | refine below_set ?_ GE351.out) | exact HB.out))) : w.heap.size ≤ gb363))
                    have n4_ := Aside0.mk ((by rw [hg]; exact (below_size (by repeat (first | (with_reducible first | exact HB.out | apply below_alloc | apply pw_below_drewN | apply below_drew1 | refine below_set ?_ GE351.out) | exact HB.out))) : w.heap.size ≤ gb363))
                    have n5_ := Aside0.mk ((by rw [hg]; exact Nat.ne_of_lt (blk_lt (g := gb351) (o := .cells #[.bool false, .string (⟨#[]⟩ : ByteArray), .bool false, .int .i64 2147483648, .int .i64 1, .int .i64 2, .int .i64 0, .int .i64 0] 75 (0, 0)) (by (with_reducible repeat (first | refine blk_drewN ?_ _ | refine blk_drew ?_ | refine blk_alloc ?_ _)); exact BK351.out)) : gb351 ≠ gb363))
                    have n6_ := Aside0.mk ((by rw [hg]; exact Nat.ne_of_gt (blk_lt (g := gb351) (o := .cells #[.bool false, .string (⟨#[]⟩ : ByteArray), .bool false, .int .i64 2147483648, .int .i64 1, .int .i64 2, .int .i64 0, .int .i64 0] 75 (0, 0)) (by (with_reducible repeat (first | refine blk_drewN ?_ _ | refine blk_drew ?_ | refine blk_alloc ?_ _)); exact BK351.out)) : gb363 ≠ gb351))
                    clear BK351
                    clear HB
                    have BK351 := n0_
                    have HB := n1_
                    have BK363 := n2_
                    have GW363 := n3_
                    have GE363 := n4_
                    have NB351_363 := n5_
                    have NB363_351 := n6_
                    clear n0_ n1_ n2_ n3_ n4_ n5_ n6_
                    clear hb hbox hg
                    refine hK.out _ _ ⟨(blk_cell BK351.out 0).trans rfl, (blk_cell BK351.out 1).trans rfl, (blk_cell BK351.out 2).trans rfl, (blk_cell BK351.out 3).trans rfl, (blk_cell BK351.out 4).trans rfl, (blk_cell BK351.out 5).trans rfl, (blk_cell BK351.out 6).trans rfl, (blk_cell BK351.out 7).trans rfl⟩ (fun hHeld => ?_)
                    clear hK K
                    refine norm_ (a' := ?_) ?_ ?_
                    rotate_left
                    · show Act.put _ (some 2) _ = _
                      simp only [Act.put, List.setIfInBounds_toArray, List.set_cons_zero, List.set_cons_succ, i64_w, i32_w]
                      rfl
                    refine one_ (i := 2) (N := some 10) #[true, true, true, false, false, false, true, false, false] rfl rfl (one_of HT_.out (by kernel_rfl)) (by decide) (fun K hK => ?_)
                    refine goes_ Try.func44 (by kernel_rfl) rfl #[.agg #[.bool t352, .int .i64 t353, .int .i64 t354, .int .i64 t355, .int .i64 t356], .int .i64 5, .agg #[.bool false, .string (⟨#[]⟩ : ByteArray), .bool false, .int .i64 2147483648, .int .i64 1, .int .i64 2, .int .i64 0, .int .i64 0]] (by rfl) rfl rfl (by (try simp only [List.map_toArray, List.map_cons, List.map_nil]); first | done | rfl | (simp only [List.length_drop, List.length_take]; rfl)) ?_
                    with_reducible refine (plat_Take.calls k t352 t353 t354 t355 t356 5 false (⟨#[]⟩ : ByteArray) false 2147483648 1 2 0 0 t357 t358 t359 t360 t361 false _ A2.out).mono ?_
                    rintro e w19 ⟨rfl, hb⟩
                    refine ⟨_, rfl, ?_⟩
                    have n0_ := Aside0.mk (blk_below (g := gb351) (o := .cells #[.bool false, .string (⟨#[]⟩ : ByteArray), .bool false, .int .i64 2147483648, .int .i64 1, .int .i64 2, .int .i64 0, .int .i64 0] 75 (0, 0)) (by (with_reducible repeat (first | refine blk_drewN ?_ _ | refine blk_drew ?_ | refine blk_alloc ?_ _)); exact BK351.out) hb)
                    have n1_ := Aside0.mk (blk_below (g := gb363) (o := .cells #[.bool false, .int .i64 0, .int .i64 0, .int .i64 0, .int .i64 0] 73 (0, 0)) (by (with_reducible repeat (first | refine blk_drewN ?_ _ | refine blk_drew ?_ | refine blk_alloc ?_ _)); exact BK363.out) hb)
                    have n2_ := Aside0.mk (below_step (by repeat (first | (with_reducible first | exact HB.out | apply below_alloc | apply pw_below_drewN | apply below_drew1 | refine below_set ?_ GE351.out | refine below_set ?_ GE363.out) | exact HB.out)) hb)
                    clear BK351
                    clear BK363
                    clear HB
                    have BK351 := n0_
                    have BK363 := n1_
                    have HB := n2_
                    clear n0_ n1_ n2_
                    (try clear hb)
                    (try clear hb2)
                    (try clear hk)
                    (try clear hi)
                    refine hK.out _ _ ⟨(blk_cell BK351.out 0).trans rfl, (blk_cell BK351.out 1).trans rfl, (blk_cell BK351.out 2).trans rfl, (blk_cell BK351.out 3).trans rfl, (blk_cell BK351.out 4).trans rfl, (blk_cell BK351.out 5).trans rfl, (blk_cell BK351.out 6).trans rfl, (blk_cell BK351.out 7).trans rfl⟩ (fun hHeld => ?_)
                    clear hK K
                    refine norm_ (a' := ?_) ?_ ?_
                    rotate_left
                    · show Act.put _ (some 10) _ = _
                      simp only [Act.put, List.setIfInBounds_toArray, List.set_cons_zero, List.set_cons_succ, i64_w, i32_w]
                      rfl
                    refine pure_ (i := 3) (N := some 7) (v := ?_) (a' := ?_) #[true, true, true, true, false, false, true, false, false] rfl rfl (any_of HT_.out (by kernel_rfl)) (fun _ _ _ h => h) (Or.inl ⟨by rfl, ?_⟩) ?_ ?_
                    rotate_left
                    · intro w'
                      go_simp
                      with_reducible rfl
                    rotate_left
                    · simp only [Act.put, List.setIfInBounds_toArray, List.set_cons_zero, List.set_cons_succ, i64_w, i32_w]
                      rfl
                    refine pure_ (i := 4) (N := some 11) (v := ?_) (a' := ?_) #[true, true, true, true, true, false, true, false, false] rfl rfl (any_of HT_.out (by kernel_rfl)) (fun _ _ _ h => h) (Or.inl ⟨by rfl, ?_⟩) ?_ ?_
                    rotate_left
                    · intro w'
                      go_simp
                      with_reducible rfl
                    rotate_left
                    · simp only [Act.put, List.setIfInBounds_toArray, List.set_cons_zero, List.set_cons_succ, i64_w, i32_w]
                      rfl
                    refine pure_ (i := 5) (N := some 12) (v := ?_) (a' := ?_) #[true, true, true, true, true, true, true, false, false] rfl rfl (any_of HT_.out (by kernel_rfl)) (fun _ _ _ h => h) (Or.inl ⟨by rfl, ?_⟩) ?_ ?_
                    rotate_left
                    · intro w'
                      go_simp
                      with_reducible rfl
                    rotate_left
                    · simp only [Act.put, List.setIfInBounds_toArray, List.set_cons_zero, List.set_cons_succ, i64_w, i32_w]
                      rfl
                    exact norm_ (by simp only [putAll, Act.put, List.setIfInBounds_toArray, List.set_cons_zero, List.set_cons_succ]) (hCont (gb363) _ ⟨hHeld, (by (with_reducible repeat (first | refine blk_drewN ?_ _ | refine blk_drew ?_ | refine blk_alloc ?_ _)); exact BK351.out), (by (with_reducible repeat (first | refine blk_drewN ?_ _ | refine blk_drew ?_ | refine blk_alloc ?_ _)); exact BK363.out), GW363.out, GE363.out, NB351_363.out, NB363_351.out, (by repeat (first | (with_reducible first | exact HB.out | apply below_alloc | apply pw_below_drewN | apply below_drew1 | refine below_set ?_ GE351.out | refine below_set ?_ GE363.out) | exact HB.out))⟩)
                · skip
                  refine box_step ?hg (N := 2) ?hd (cs := #[.bool false, .int .i64 0, .int .i64 0, .int .i64 0, .int .i64 0]) (t := 73) ?hr ?_; (case hd => rfl); (case hg => rfl); (case hr => first | (go_simp; done) | (go_simp; rfl))
                  intro gb363 hg w17 hbox hb
                  have n0_ := Aside0.mk (blk_below (g := gb351) (o := .cells #[.bool false, .string (⟨#[]⟩ : ByteArray), .bool false, .int .i64 2147483648, .int .i64 1, .int .i64 2, .int .i64 0, .int .i64 0] 75 (0, 0)) (by (with_reducible repeat (first | refine blk_drewN ?_ _ | refine blk_drew ?_ | refine blk_alloc ?_ _)); exact BK351.out) hb)
                  have n1_ := Aside0.mk (below_step (by repeat (first | (with_reducible first | exact HB.out | apply below_alloc | apply pw_below_drewN | apply below_drew1 | refine below_set ?_ GE351.out) | exact HB.out)) hb)
                  have n2_ := Aside0.mk (hbox)
                  have n3_ := Aside0.mk ((by rw [hg]; exact (below_size (by repeat (first | (with_reducible first | exact HB.out | apply below_alloc | apply pw_below_drewN | apply below_drew1 | refine below_set ?_ GE351.out) | exact HB.out))) : w.heap.size ≤ gb363))
                  have n4_ := Aside0.mk ((by rw [hg]; exact (below_size (by repeat (first | (with_reducible first | exact HB.out | apply below_alloc | apply pw_below_drewN | apply below_drew1 | refine below_set ?_ GE351.out) | exact HB.out))) : w.heap.size ≤ gb363))
                  have n5_ := Aside0.mk ((by rw [hg]; exact Nat.ne_of_lt (blk_lt (g := gb351) (o := .cells #[.bool false, .string (⟨#[]⟩ : ByteArray), .bool false, .int .i64 2147483648, .int .i64 1, .int .i64 2, .int .i64 0, .int .i64 0] 75 (0, 0)) (by (with_reducible repeat (first | refine blk_drewN ?_ _ | refine blk_drew ?_ | refine blk_alloc ?_ _)); exact BK351.out)) : gb351 ≠ gb363))
                  have n6_ := Aside0.mk ((by rw [hg]; exact Nat.ne_of_gt (blk_lt (g := gb351) (o := .cells #[.bool false, .string (⟨#[]⟩ : ByteArray), .bool false, .int .i64 2147483648, .int .i64 1, .int .i64 2, .int .i64 0, .int .i64 0] 75 (0, 0)) (by (with_reducible repeat (first | refine blk_drewN ?_ _ | refine blk_drew ?_ | refine blk_alloc ?_ _)); exact BK351.out)) : gb363 ≠ gb351))
                  clear BK351
                  clear HB
                  have BK351 := n0_
                  have HB := n1_
                  have BK363 := n2_
                  have GW363 := n3_
                  have GE363 := n4_
                  have NB351_363 := n5_
                  have NB363_351 := n6_
                  clear n0_ n1_ n2_ n3_ n4_ n5_ n6_
                  clear hb hbox hg
                  refine hK.out _ _ ⟨(blk_cell BK351.out 0).trans rfl, (blk_cell BK351.out 1).trans rfl, (blk_cell BK351.out 2).trans rfl, (blk_cell BK351.out 3).trans rfl, (blk_cell BK351.out 4).trans rfl, (blk_cell BK351.out 5).trans rfl, (blk_cell BK351.out 6).trans rfl, (blk_cell BK351.out 7).trans rfl⟩ (fun hHeld => ?_)
                  clear hK K
                  refine norm_ (a' := ?_) ?_ ?_
                  rotate_left
                  · show Act.put _ (some 2) _ = _
                    simp only [Act.put, List.setIfInBounds_toArray, List.set_cons_zero, List.set_cons_succ, i64_w, i32_w]
                    rfl
                  refine one_ (i := 0) (N := some 8) #[true, true, false, false, false, false, true, false, false] rfl rfl (one_of HT_.out (by kernel_rfl)) (by decide) (fun K hK => ?_)
                  refine goes_ Try.func51 (by kernel_rfl) rfl #[] (by rfl) rfl rfl (by (try simp only [List.map_toArray, List.map_cons, List.map_nil]); first | done | rfl | (simp only [List.length_drop, List.length_take]; rfl)) ?_
                  with_reducible refine (plat_New.calls  t352 t353 t354 t355 t356 _ A1.out).mono ?_
                  rintro e w18 ⟨rfl, hb⟩
                  refine ⟨_, rfl, ?_⟩
                  have n0_ := Aside0.mk (blk_below (g := gb351) (o := .cells #[.bool false, .string (⟨#[]⟩ : ByteArray), .bool false, .int .i64 2147483648, .int .i64 1, .int .i64 2, .int .i64 0, .int .i64 0] 75 (0, 0)) (by (with_reducible repeat (first | refine blk_drewN ?_ _ | refine blk_drew ?_ | refine blk_alloc ?_ _)); exact BK351.out) hb)
                  have n1_ := Aside0.mk (blk_below (g := gb363) (o := .cells #[.bool false, .int .i64 0, .int .i64 0, .int .i64 0, .int .i64 0] 73 (0, 0)) (by (with_reducible repeat (first | refine blk_drewN ?_ _ | refine blk_drew ?_ | refine blk_alloc ?_ _)); exact BK363.out) hb)
                  have n2_ := Aside0.mk (below_step (by repeat (first | (with_reducible first | exact HB.out | apply below_alloc | apply pw_below_drewN | apply below_drew1 | refine below_set ?_ GE351.out | refine below_set ?_ GE363.out) | exact HB.out)) hb)
                  clear BK351
                  clear BK363
                  clear HB
                  have BK351 := n0_
                  have BK363 := n1_
                  have HB := n2_
                  clear n0_ n1_ n2_
                  (try clear hb)
                  (try clear hb2)
                  (try clear hk)
                  (try clear hi)
                  refine hK.out _ _ ⟨(blk_cell BK351.out 0).trans rfl, (blk_cell BK351.out 1).trans rfl, (blk_cell BK351.out 2).trans rfl, (blk_cell BK351.out 3).trans rfl, (blk_cell BK351.out 4).trans rfl, (blk_cell BK351.out 5).trans rfl, (blk_cell BK351.out 6).trans rfl, (blk_cell BK351.out 7).trans rfl⟩ (fun hHeld => ?_)
                  clear hK K
                  refine norm_ (a' := ?_) ?_ ?_
                  rotate_left
                  · show Act.put _ (some 8) _ = _
                    simp only [Act.put, List.setIfInBounds_toArray, List.set_cons_zero, List.set_cons_succ, i64_w, i32_w]
                    rfl
                  refine one_ (i := 2) (N := some 10) #[true, true, true, false, false, false, true, false, false] rfl rfl (one_of HT_.out (by kernel_rfl)) (by decide) (fun K hK => ?_)
                  refine goes_ Try.func44 (by kernel_rfl) rfl #[.agg #[.bool t352, .int .i64 t353, .int .i64 t354, .int .i64 t355, .int .i64 t356], .int .i64 5, .agg #[.bool false, .string (⟨#[]⟩ : ByteArray), .bool false, .int .i64 2147483648, .int .i64 1, .int .i64 2, .int .i64 0, .int .i64 0]] (by rfl) rfl rfl (by (try simp only [List.map_toArray, List.map_cons, List.map_nil]); first | done | rfl | (simp only [List.length_drop, List.length_take]; rfl)) ?_
                  with_reducible refine (plat_Take.calls k t352 t353 t354 t355 t356 5 false (⟨#[]⟩ : ByteArray) false 2147483648 1 2 0 0 t357 t358 t359 t360 t361 false _ A2.out).mono ?_
                  rintro e w19 ⟨rfl, hb⟩
                  refine ⟨_, rfl, ?_⟩
                  have n0_ := Aside0.mk (blk_below (g := gb351) (o := .cells #[.bool false, .string (⟨#[]⟩ : ByteArray), .bool false, .int .i64 2147483648, .int .i64 1, .int .i64 2, .int .i64 0, .int .i64 0] 75 (0, 0)) (by (with_reducible repeat (first | refine blk_drewN ?_ _ | refine blk_drew ?_ | refine blk_alloc ?_ _)); exact BK351.out) hb)
                  have n1_ := Aside0.mk (blk_below (g := gb363) (o := .cells #[.bool false, .int .i64 0, .int .i64 0, .int .i64 0, .int .i64 0] 73 (0, 0)) (by (with_reducible repeat (first | refine blk_drewN ?_ _ | refine blk_drew ?_ | refine blk_alloc ?_ _)); exact BK363.out) hb)
                  have n2_ := Aside0.mk (below_step (by repeat (first | (with_reducible first | exact HB.out | apply below_alloc | apply pw_below_drewN | apply below_drew1 | refine below_set ?_ GE351.out | refine below_set ?_ GE363.out) | exact HB.out)) hb)
                  clear BK351
                  clear BK363
                  clear HB
                  have BK351 := n0_
                  have BK363 := n1_
                  have HB := n2_
                  clear n0_ n1_ n2_
                  (try clear hb)
                  (try clear hb2)
                  (try clear hk)
                  (try clear hi)
                  refine hK.out _ _ ⟨(blk_cell BK351.out 0).trans rfl, (blk_cell BK351.out 1).trans rfl, (blk_cell BK351.out 2).trans rfl, (blk_cell BK351.out 3).trans rfl, (blk_cell BK351.out 4).trans rfl, (blk_cell BK351.out 5).trans rfl, (blk_cell BK351.out 6).trans rfl, (blk_cell BK351.out 7).trans rfl⟩ (fun hHeld => ?_)
                  clear hK K
                  refine norm_ (a' := ?_) ?_ ?_
                  rotate_left
                  · show Act.put _ (some 10) _ = _
                    simp only [Act.put, List.setIfInBounds_toArray, List.set_cons_zero, List.set_cons_succ, i64_w, i32_w]
                    rfl
                  refine pure_ (i := 3) (N := some 7) (v := ?_) (a' := ?_) #[true, true, true, true, false, false, true, false, false] rfl rfl (any_of HT_.out (by kernel_rfl)) (fun _ _ _ h => h) (Or.inl ⟨by rfl, ?_⟩) ?_ ?_
                  rotate_left
                  · intro w'
                    go_simp
                    with_reducible rfl
                  rotate_left
                  · simp only [Act.put, List.setIfInBounds_toArray, List.set_cons_zero, List.set_cons_succ, i64_w, i32_w]
                    rfl
                  refine pure_ (i := 4) (N := some 11) (v := ?_) (a' := ?_) #[true, true, true, true, true, false, true, false, false] rfl rfl (any_of HT_.out (by kernel_rfl)) (fun _ _ _ h => h) (Or.inl ⟨by rfl, ?_⟩) ?_ ?_
                  rotate_left
                  · intro w'
                    go_simp
                    with_reducible rfl
                  rotate_left
                  · simp only [Act.put, List.setIfInBounds_toArray, List.set_cons_zero, List.set_cons_succ, i64_w, i32_w]
                    rfl
                  refine pure_ (i := 5) (N := some 12) (v := ?_) (a' := ?_) #[true, true, true, true, true, true, true, false, false] rfl rfl (any_of HT_.out (by kernel_rfl)) (fun _ _ _ h => h) (Or.inl ⟨by rfl, ?_⟩) ?_ ?_
                  rotate_left
                  · intro w'
                    go_simp
                    with_reducible rfl
                  rotate_left
                  · simp only [Act.put, List.setIfInBounds_toArray, List.set_cons_zero, List.set_cons_succ, i64_w, i32_w]
                    rfl
                  exact norm_ (by simp only [putAll, Act.put, List.setIfInBounds_toArray, List.set_cons_zero, List.set_cons_succ]) (hCont (gb363) _ ⟨hHeld, (by (with_reducible repeat (first | refine blk_drewN ?_ _ | refine blk_drew ?_ | refine blk_alloc ?_ _)); exact BK351.out), (by (with_reducible repeat (first | refine blk_drewN ?_ _ | refine blk_drew ?_ | refine blk_alloc ?_ _)); exact BK363.out), GW363.out, GE363.out, NB351_363.out, NB363_351.out, (by repeat (first | (with_reducible first | exact HB.out | apply below_alloc | apply pw_below_drewN | apply below_drew1 | refine below_set ?_ GE351.out | refine below_set ?_ GE363.out) | exact HB.out))⟩)
              rintro gb363 w20 ⟨hS_, h0_, h1_, h2_, h3_, h4_, h5_, h6_⟩
              have n0_ : Aside0 (w20.heap[gb351]? = some (.cells #[.bool false, .string (⟨#[]⟩ : ByteArray), .bool false, .int .i64 2147483648, .int .i64 1, .int .i64 2, .int .i64 0, .int .i64 0] 75 (0, 0))) := ⟨h0_⟩
              have n1_ : Aside0 (w20.heap[gb363]? = some (.cells #[.bool false, .int .i64 0, .int .i64 0, .int .i64 0, .int .i64 0] 73 (0, 0))) := ⟨h1_⟩
              have n2_ : Aside0 (w.heap.size ≤ gb363) := ⟨h2_⟩
              have n3_ : Aside0 (w.heap.size ≤ gb363) := ⟨h3_⟩
              have n4_ : Aside0 (gb351 ≠ gb363) := ⟨h4_⟩
              have n5_ : Aside0 (gb363 ≠ gb351) := ⟨h5_⟩
              have n6_ : Aside0 (Below w.heap.size w w20) := ⟨h6_⟩
              clear BK351
              clear HB
              clear h0_ h1_ h2_ h3_ h4_ h5_ h6_
              have BK351 := n0_
              have BK363 := n1_
              have GW363 := n2_
              have GE363 := n3_
              have NB351_363 := n4_
              have NB363_351 := n5_
              have HB := n6_
              clear n0_ n1_ n2_ n3_ n4_ n5_ n6_
              have hHeld : w20.cell? ⟨gb351, 0, none⟩ = some (.bool false) ∧ w20.cell? ⟨gb351, 1, none⟩ = some (.string (⟨#[]⟩ : ByteArray)) ∧ w20.cell? ⟨gb351, 2, none⟩ = some (.bool false) ∧ w20.cell? ⟨gb351, 3, none⟩ = some (.int .i64 2147483648) ∧ w20.cell? ⟨gb351, 4, none⟩ = some (.int .i64 1) ∧ w20.cell? ⟨gb351, 5, none⟩ = some (.int .i64 2) ∧ w20.cell? ⟨gb351, 6, none⟩ = some (.int .i64 0) ∧ w20.cell? ⟨gb351, 7, none⟩ = some (.int .i64 0) := hS_
              refine norm_ (a' := ?_) ?_ ?_
              rotate_left
              · simp only [putAll, Act.put, List.setIfInBounds_toArray, List.set_cons_zero, List.set_cons_succ]
                rfl
              refine one_ (i := 7) (N := none) #[true, true, true, true, true, true, true, true, false] rfl rfl (one_of HT_.out (by kernel_rfl)) (by decide) (fun K hK => ?_)
              have hs21 : w20.cell? ⟨gb363, 0, none⟩ = some (.bool false) := (blk_cell BK363.out 0).trans rfl
              have hfs21 := blk_frozen BK363.out 0
              have hns21_0 := NB351_363.out
              have hms21_0 := NB363_351.out
              have hs22 : w20.cell? ⟨gb363, 1, none⟩ = some (.int .i64 0) := (blk_cell BK363.out 1).trans rfl
              have hfs22 := blk_frozen BK363.out 1
              have hns22_0 := NB351_363.out
              have hms22_0 := NB363_351.out
              have hs23 : w20.cell? ⟨gb363, 2, none⟩ = some (.int .i64 0) := (blk_cell BK363.out 2).trans rfl
              have hfs23 := blk_frozen BK363.out 2
              have hns23_0 := NB351_363.out
              have hms23_0 := NB363_351.out
              have hs24 : w20.cell? ⟨gb363, 3, none⟩ = some (.int .i64 0) := (blk_cell BK363.out 3).trans rfl
              have hfs24 := blk_frozen BK363.out 3
              have hns24_0 := NB351_363.out
              have hms24_0 := NB363_351.out
              have hs25 : w20.cell? ⟨gb363, 4, none⟩ = some (.int .i64 0) := (blk_cell BK363.out 4).trans rfl
              have hfs25 := blk_frozen BK363.out 4
              have hns25_0 := NB351_363.out
              have hms25_0 := NB363_351.out
              refine skip_ (w1 := ?_) (by rfl) rfl ?_ ?_
              rotate_left
              · go_simp
                rfl
              refine hK.out _ _ ⟨((cell_far (p := ⟨gb363, _, none⟩) NB351_363.out _).trans (((cell_far (p := ⟨gb363, _, none⟩) NB351_363.out _).trans (((cell_far (p := ⟨gb363, _, none⟩) NB351_363.out _).trans (((cell_far (p := ⟨gb363, _, none⟩) NB351_363.out _).trans (((cell_far (p := ⟨gb363, _, none⟩) NB351_363.out _).trans (hHeld.1)))))))))), ((cell_far (p := ⟨gb363, _, none⟩) NB351_363.out _).trans (((cell_far (p := ⟨gb363, _, none⟩) NB351_363.out _).trans (((cell_far (p := ⟨gb363, _, none⟩) NB351_363.out _).trans (((cell_far (p := ⟨gb363, _, none⟩) NB351_363.out _).trans (((cell_far (p := ⟨gb363, _, none⟩) NB351_363.out _).trans (hHeld.2.1)))))))))), ((cell_far (p := ⟨gb363, _, none⟩) NB351_363.out _).trans (((cell_far (p := ⟨gb363, _, none⟩) NB351_363.out _).trans (((cell_far (p := ⟨gb363, _, none⟩) NB351_363.out _).trans (((cell_far (p := ⟨gb363, _, none⟩) NB351_363.out _).trans (((cell_far (p := ⟨gb363, _, none⟩) NB351_363.out _).trans (hHeld.2.2.1)))))))))), ((cell_far (p := ⟨gb363, _, none⟩) NB351_363.out _).trans (((cell_far (p := ⟨gb363, _, none⟩) NB351_363.out _).trans (((cell_far (p := ⟨gb363, _, none⟩) NB351_363.out _).trans (((cell_far (p := ⟨gb363, _, none⟩) NB351_363.out _).trans (((cell_far (p := ⟨gb363, _, none⟩) NB351_363.out _).trans (hHeld.2.2.2.1)))))))))), ((cell_far (p := ⟨gb363, _, none⟩) NB351_363.out _).trans (((cell_far (p := ⟨gb363, _, none⟩) NB351_363.out _).trans (((cell_far (p := ⟨gb363, _, none⟩) NB351_363.out _).trans (((cell_far (p := ⟨gb363, _, none⟩) NB351_363.out _).trans (((cell_far (p := ⟨gb363, _, none⟩) NB351_363.out _).trans (hHeld.2.2.2.2.1)))))))))), ((cell_far (p := ⟨gb363, _, none⟩) NB351_363.out _).trans (((cell_far (p := ⟨gb363, _, none⟩) NB351_363.out _).trans (((cell_far (p := ⟨gb363, _, none⟩) NB351_363.out _).trans (((cell_far (p := ⟨gb363, _, none⟩) NB351_363.out _).trans (((cell_far (p := ⟨gb363, _, none⟩) NB351_363.out _).trans (hHeld.2.2.2.2.2.1)))))))))), ((cell_far (p := ⟨gb363, _, none⟩) NB351_363.out _).trans (((cell_far (p := ⟨gb363, _, none⟩) NB351_363.out _).trans (((cell_far (p := ⟨gb363, _, none⟩) NB351_363.out _).trans (((cell_far (p := ⟨gb363, _, none⟩) NB351_363.out _).trans (((cell_far (p := ⟨gb363, _, none⟩) NB351_363.out _).trans (hHeld.2.2.2.2.2.2.1)))))))))), ((cell_far (p := ⟨gb363, _, none⟩) NB351_363.out _).trans (((cell_far (p := ⟨gb363, _, none⟩) NB351_363.out _).trans (((cell_far (p := ⟨gb363, _, none⟩) NB351_363.out _).trans (((cell_far (p := ⟨gb363, _, none⟩) NB351_363.out _).trans (((cell_far (p := ⟨gb363, _, none⟩) NB351_363.out _).trans (hHeld.2.2.2.2.2.2.2))))))))))⟩ (fun hHeld => ?_)
              clear hK K
              refine pure_ (i := 8) (N := some 3) (v := ?_) (a' := ?_) #[true, true, true, true, true, true, true, true, true] rfl rfl (any_of HT_.out (by kernel_rfl)) (fun _ _ _ h => h) (Or.inl ⟨by rfl, ?_⟩) ?_ ?_
              rotate_left
              · intro w'
                go_simp
                with_reducible rfl
              rotate_left
              · simp only [Act.put, List.setIfInBounds_toArray, List.set_cons_zero, List.set_cons_succ, i64_w, i32_w]
                rfl
              refine done_ (done_of HT_.out (by kernel_rfl)) ?_
              have hnb26 := NB363_351.out
              have hnc26 := NB351_363.out
              have hcz27_0 : w20.cell? ⟨gb363, 0, none⟩ = some (.bool false) := (blk_cell BK363.out 0).trans rfl
              have hcz27_1 : w20.cell? ⟨gb363, 1, none⟩ = some (.int .i64 0) := (blk_cell BK363.out 1).trans rfl
              have hcz27_2 : w20.cell? ⟨gb363, 2, none⟩ = some (.int .i64 0) := (blk_cell BK363.out 2).trans rfl
              have hcz27_3 : w20.cell? ⟨gb363, 3, none⟩ = some (.int .i64 0) := (blk_cell BK363.out 3).trans rfl
              have hcz27_4 : w20.cell? ⟨gb363, 4, none⟩ = some (.int .i64 0) := (blk_cell BK363.out 4).trans rfl
              have hfz27_0 := blk_frozen BK363.out 0
              have hfz27_1 := blk_frozen BK363.out 1
              have hfz27_2 := blk_frozen BK363.out 2
              have hfz27_3 := blk_frozen BK363.out 3
              have hfz27_4 := blk_frozen BK363.out 4
              have hcz28_0 : w20.cell? ⟨gb351, 0, none⟩ = some (.bool false) := (blk_cell BK351.out 0).trans rfl
              have hcz28_1 : w20.cell? ⟨gb351, 1, none⟩ = some (.string (⟨#[]⟩ : ByteArray)) := (blk_cell BK351.out 1).trans rfl
              have hcz28_2 : w20.cell? ⟨gb351, 2, none⟩ = some (.bool false) := (blk_cell BK351.out 2).trans rfl
              have hcz28_3 : w20.cell? ⟨gb351, 3, none⟩ = some (.int .i64 2147483648) := (blk_cell BK351.out 3).trans rfl
              have hcz28_4 : w20.cell? ⟨gb351, 4, none⟩ = some (.int .i64 1) := (blk_cell BK351.out 4).trans rfl
              have hcz28_5 : w20.cell? ⟨gb351, 5, none⟩ = some (.int .i64 2) := (blk_cell BK351.out 5).trans rfl
              have hcz28_6 : w20.cell? ⟨gb351, 6, none⟩ = some (.int .i64 0) := (blk_cell BK351.out 6).trans rfl
              have hcz28_7 : w20.cell? ⟨gb351, 7, none⟩ = some (.int .i64 0) := (blk_cell BK351.out 7).trans rfl
              have hfz28_0 := blk_frozen BK351.out 0
              have hfz28_1 := blk_frozen BK351.out 1
              have hfz28_2 := blk_frozen BK351.out 2
              have hfz28_3 := blk_frozen BK351.out 3
              have hfz28_4 := blk_frozen BK351.out 4
              have hfz28_5 := blk_frozen BK351.out 5
              have hfz28_6 := blk_frozen BK351.out 6
              have hfz28_7 := blk_frozen BK351.out 7
              try go_wp2_with (first | ((with_reducible refine gate_callee (f := 44) rfl ?_); refine goesL_ (some 16) rfl rfl Try.func44 (by kernel_rfl) rfl #[.agg #[.bool t357, .int .i64 t358, .int .i64 t359, .int .i64 t360, .int .i64 t361], .int .i64 5, .agg #[.bool false, .string (⟨#[]⟩ : ByteArray), .bool false, .int .i64 2147483648, .int .i64 1, .int .i64 2, .int .i64 0, .int .i64 0]] rfl (by (try simp only [List.map_toArray, List.map_cons, List.map_nil]); first | done | rfl | (simp only [List.length_drop, List.length_take]; rfl)) ?_; (with_reducible refine (plat_Take.calls k t357 t358 t359 t360 t361 5 false (⟨#[]⟩ : ByteArray) false 2147483648 1 2 0 0 t364 t365 t366 t367 t368 true _ A3.out).mono ?_); rintro e w29 ⟨rfl, hb⟩; refine ⟨_, rfl, ?_⟩; have n0_ := Aside0.mk (blk_below (g := gb351) (o := .cells #[.bool false, .string (⟨#[]⟩ : ByteArray), .bool false, .int .i64 2147483648, .int .i64 1, .int .i64 2, .int .i64 0, .int .i64 0] 75 (0, 0)) (by (with_reducible repeat (first | refine blk_drewN ?_ _ | refine blk_drew ?_ | refine blk_alloc ?_ _)); refine blk_far ?_ NB351_363.out _; (with_reducible repeat (first | refine blk_drewN ?_ _ | refine blk_drew ?_ | refine blk_alloc ?_ _)); refine blk_far ?_ NB351_363.out _; (with_reducible repeat (first | refine blk_drewN ?_ _ | refine blk_drew ?_ | refine blk_alloc ?_ _)); refine blk_far ?_ NB351_363.out _; (with_reducible repeat (first | refine blk_drewN ?_ _ | refine blk_drew ?_ | refine blk_alloc ?_ _)); refine blk_far ?_ NB351_363.out _; (with_reducible repeat (first | refine blk_drewN ?_ _ | refine blk_drew ?_ | refine blk_alloc ?_ _)); refine blk_far ?_ NB351_363.out _; (with_reducible repeat (first | refine blk_drewN ?_ _ | refine blk_drew ?_ | refine blk_alloc ?_ _)); exact BK351.out) hb); have n1_ := Aside0.mk (blk_below (g := gb363) (o := .cells #[.bool t357, .int .i64 t358, .int .i64 t359, .int .i64 t360, .int .i64 t361] 73 (0, 0)) (by (with_reducible repeat (first | refine blk_drewN ?_ _ | refine blk_drew ?_ | refine blk_alloc ?_ _)); refine blk_put (cs := #[.bool t357, .int .i64 t358, .int .i64 t359, .int .i64 t360, .int .i64 0]) ?_ 4 _ rfl; (with_reducible repeat (first | refine blk_drewN ?_ _ | refine blk_drew ?_ | refine blk_alloc ?_ _)); refine blk_put (cs := #[.bool t357, .int .i64 t358, .int .i64 t359, .int .i64 0, .int .i64 0]) ?_ 3 _ rfl; (with_reducible repeat (first | refine blk_drewN ?_ _ | refine blk_drew ?_ | refine blk_alloc ?_ _)); refine blk_put (cs := #[.bool t357, .int .i64 t358, .int .i64 0, .int .i64 0, .int .i64 0]) ?_ 2 _ rfl; (with_reducible repeat (first | refine blk_drewN ?_ _ | refine blk_drew ?_ | refine blk_alloc ?_ _)); refine blk_put (cs := #[.bool t357, .int .i64 0, .int .i64 0, .int .i64 0, .int .i64 0]) ?_ 1 _ rfl; (with_reducible repeat (first | refine blk_drewN ?_ _ | refine blk_drew ?_ | refine blk_alloc ?_ _)); refine blk_put (cs := #[.bool false, .int .i64 0, .int .i64 0, .int .i64 0, .int .i64 0]) ?_ 0 _ rfl; (with_reducible repeat (first | refine blk_drewN ?_ _ | refine blk_drew ?_ | refine blk_alloc ?_ _)); exact BK363.out) hb); have n2_ := Aside0.mk (below_step (by repeat (first | (with_reducible first | exact HB.out | apply below_alloc | apply pw_below_drewN | apply below_drew1 | refine below_set ?_ GE351.out | refine below_set ?_ GE363.out) | exact HB.out)) hb); clear BK351; clear BK363; clear HB; have BK351 := n0_; have BK363 := n1_; have HB := n2_; clear n0_ n1_ n2_; (try clear hb); (try clear hb2); (try clear hk); (try clear hi)) | ((with_reducible refine gate_dst (N := 4) rfl ?_); refine box_event ?hg (N := 4) ?hd (cs := #[.bool false, .int .i64 0, .int .i64 0, .int .i64 0, .int .i64 0]) (t := 73) ?hr ?_; (case hd => rfl); (case hg => rfl); (case hr => first | (go_simp; done) | (go_simp; rfl)); intro gb370 hg w30 hbox hb; have n0_ := Aside0.mk (blk_below (g := gb351) (o := .cells #[.bool false, .string (⟨#[]⟩ : ByteArray), .bool false, .int .i64 2147483648, .int .i64 1, .int .i64 2, .int .i64 0, .int .i64 0] 75 (0, 0)) (by (with_reducible repeat (first | refine blk_drewN ?_ _ | refine blk_drew ?_ | refine blk_alloc ?_ _)); exact BK351.out) hb); have n1_ := Aside0.mk (blk_below (g := gb363) (o := .cells #[.bool t357, .int .i64 t358, .int .i64 t359, .int .i64 t360, .int .i64 t361] 73 (0, 0)) (by (with_reducible repeat (first | refine blk_drewN ?_ _ | refine blk_drew ?_ | refine blk_alloc ?_ _)); exact BK363.out) hb); have n2_ := Aside0.mk (below_step (by repeat (first | (with_reducible first | exact HB.out | apply below_alloc | apply pw_below_drewN | apply below_drew1 | refine below_set ?_ GE351.out | refine below_set ?_ GE363.out) | exact HB.out)) hb); have n3_ := Aside0.mk (hbox); have n4_ := Aside0.mk ((by rw [hg]; exact (below_size (by repeat (first | (with_reducible first | exact HB.out | apply below_alloc | apply pw_below_drewN | apply below_drew1 | refine below_set ?_ GE351.out | refine below_set ?_ GE363.out) | exact HB.out))) : w.heap.size ≤ gb370)); have n5_ := Aside0.mk ((by rw [hg]; exact (below_size (by repeat (first | (with_reducible first | exact HB.out | apply below_alloc | apply pw_below_drewN | apply below_drew1 | refine below_set ?_ GE351.out | refine below_set ?_ GE363.out) | exact HB.out))) : w.heap.size ≤ gb370)); have n6_ := Aside0.mk ((by rw [hg]; exact Nat.ne_of_lt (blk_lt (g := gb351) (o := .cells #[.bool false, .string (⟨#[]⟩ : ByteArray), .bool false, .int .i64 2147483648, .int .i64 1, .int .i64 2, .int .i64 0, .int .i64 0] 75 (0, 0)) (by (with_reducible repeat (first | refine blk_drewN ?_ _ | refine blk_drew ?_ | refine blk_alloc ?_ _)); exact BK351.out)) : gb351 ≠ gb370)); have n7_ := Aside0.mk ((by rw [hg]; exact Nat.ne_of_gt (blk_lt (g := gb351) (o := .cells #[.bool false, .string (⟨#[]⟩ : ByteArray), .bool false, .int .i64 2147483648, .int .i64 1, .int .i64 2, .int .i64 0, .int .i64 0] 75 (0, 0)) (by (with_reducible repeat (first | refine blk_drewN ?_ _ | refine blk_drew ?_ | refine blk_alloc ?_ _)); exact BK351.out)) : gb370 ≠ gb351)); have n8_ := Aside0.mk ((by rw [hg]; exact Nat.ne_of_lt (blk_lt (g := gb363) (o := .cells #[.bool t357, .int .i64 t358, .int .i64 t359, .int .i64 t360, .int .i64 t361] 73 (0, 0)) (by (with_reducible repeat (first | refine blk_drewN ?_ _ | refine blk_drew ?_ | refine blk_alloc ?_ _)); exact BK363.out)) : gb363 ≠ gb370)); have n9_ := Aside0.mk ((by rw [hg]; exact Nat.ne_of_gt (blk_lt (g := gb363) (o := .cells #[.bool t357, .int .i64 t358, .int .i64 t359, .int .i64 t360, .int .i64 t361] 73 (0, 0)) (by (with_reducible repeat (first | refine blk_drewN ?_ _ | refine blk_drew ?_ | refine blk_alloc ?_ _)); exact BK363.out)) : gb370 ≠ gb363)); clear BK351; clear BK363; clear HB; have BK351 := n0_; have BK363 := n1_; have HB := n2_; have BK370 := n3_; have GW370 := n4_; have GE370 := n5_; have NB351_370 := n6_; have NB370_351 := n7_; have NB363_370 := n8_; have NB370_363 := n9_; clear n0_ n1_ n2_ n3_ n4_ n5_ n6_ n7_ n8_ n9_; clear hb hbox hg; have hnb31 := NB370_351.out; have hnc31 := NB351_370.out; have hnb32 := NB370_363.out; have hnc32 := NB363_370.out; have hcz33_0 : w30.cell? ⟨gb370, 0, none⟩ = some (.bool false) := (blk_cell BK370.out 0).trans rfl; have hcz33_1 : w30.cell? ⟨gb370, 1, none⟩ = some (.int .i64 0) := (blk_cell BK370.out 1).trans rfl; have hcz33_2 : w30.cell? ⟨gb370, 2, none⟩ = some (.int .i64 0) := (blk_cell BK370.out 2).trans rfl; have hcz33_3 : w30.cell? ⟨gb370, 3, none⟩ = some (.int .i64 0) := (blk_cell BK370.out 3).trans rfl; have hcz33_4 : w30.cell? ⟨gb370, 4, none⟩ = some (.int .i64 0) := (blk_cell BK370.out 4).trans rfl; have hfz33_0 := blk_frozen BK370.out 0; have hfz33_1 := blk_frozen BK370.out 1; have hfz33_2 := blk_frozen BK370.out 2; have hfz33_3 := blk_frozen BK370.out 3; have hfz33_4 := blk_frozen BK370.out 4) | (go_at_call 48; (with_reducible refine (plat_Rate.calls k t364 t365 t366 t367 t368 8 0 t371 _ A8.out).mono ?_); rintro e w34 ⟨rfl, hb⟩; have n0_ := Aside0.mk (blk_below (g := gb351) (o := .cells #[.bool false, .string (⟨#[]⟩ : ByteArray), .bool false, .int .i64 2147483648, .int .i64 1, .int .i64 2, .int .i64 0, .int .i64 0] 75 (0, 0)) (by (with_reducible repeat (first | refine blk_drewN ?_ _ | refine blk_drew ?_ | refine blk_alloc ?_ _)); refine blk_far ?_ NB351_370.out _; (with_reducible repeat (first | refine blk_drewN ?_ _ | refine blk_drew ?_ | refine blk_alloc ?_ _)); refine blk_far ?_ NB351_370.out _; (with_reducible repeat (first | refine blk_drewN ?_ _ | refine blk_drew ?_ | refine blk_alloc ?_ _)); refine blk_far ?_ NB351_370.out _; (with_reducible repeat (first | refine blk_drewN ?_ _ | refine blk_drew ?_ | refine blk_alloc ?_ _)); refine blk_far ?_ NB351_370.out _; (with_reducible repeat (first | refine blk_drewN ?_ _ | refine blk_drew ?_ | refine blk_alloc ?_ _)); refine blk_far ?_ NB351_370.out _; (with_reducible repeat (first | refine blk_drewN ?_ _ | refine blk_drew ?_ | refine blk_alloc ?_ _)); exact BK351.out) hb); have n1_ := Aside0.mk (blk_below (g := gb363) (o := .cells #[.bool t357, .int .i64 t358, .int .i64 t359, .int .i64 t360, .int .i64 t361] 73 (0, 0)) (by (with_reducible repeat (first | refine blk_drewN ?_ _ | refine blk_drew ?_ | refine blk_alloc ?_ _)); refine blk_far ?_ NB363_370.out _; (with_reducible repeat (first | refine blk_drewN ?_ _ | refine blk_drew ?_ | refine blk_alloc ?_ _)); refine blk_far ?_ NB363_370.out _; (with_reducible repeat (first | refine blk_drewN ?_ _ | refine blk_drew ?_ | refine blk_alloc ?_ _)); refine blk_far ?_ NB363_370.out _; (with_reducible repeat (first | refine blk_drewN ?_ _ | refine blk_drew ?_ | refine blk_alloc ?_ _)); refine blk_far ?_ NB363_370.out _; (with_reducible repeat (first | refine blk_drewN ?_ _ | refine blk_drew ?_ | refine blk_alloc ?_ _)); refine blk_far ?_ NB363_370.out _; (with_reducible repeat (first | refine blk_drewN ?_ _ | refine blk_drew ?_ | refine blk_alloc ?_ _)); exact BK363.out) hb); have n2_ := Aside0.mk (blk_below (g := gb370) (o := .cells #[.bool t364, .int .i64 t365, .int .i64 t366, .int .i64 t367, .int .i64 t368] 73 (0, 0)) (by (with_reducible repeat (first | refine blk_drewN ?_ _ | refine blk_drew ?_ | refine blk_alloc ?_ _)); refine blk_put (cs := #[.bool t364, .int .i64 t365, .int .i64 t366, .int .i64 t367, .int .i64 0]) ?_ 4 _ rfl; (with_reducible repeat (first | refine blk_drewN ?_ _ | refine blk_drew ?_ | refine blk_alloc ?_ _)); refine blk_put (cs := #[.bool t364, .int .i64 t365, .int .i64 t366, .int .i64 0, .int .i64 0]) ?_ 3 _ rfl; (with_reducible repeat (first | refine blk_drewN ?_ _ | refine blk_drew ?_ | refine blk_alloc ?_ _)); refine blk_put (cs := #[.bool t364, .int .i64 t365, .int .i64 0, .int .i64 0, .int .i64 0]) ?_ 2 _ rfl; (with_reducible repeat (first | refine blk_drewN ?_ _ | refine blk_drew ?_ | refine blk_alloc ?_ _)); refine blk_put (cs := #[.bool t364, .int .i64 0, .int .i64 0, .int .i64 0, .int .i64 0]) ?_ 1 _ rfl; (with_reducible repeat (first | refine blk_drewN ?_ _ | refine blk_drew ?_ | refine blk_alloc ?_ _)); refine blk_put (cs := #[.bool false, .int .i64 0, .int .i64 0, .int .i64 0, .int .i64 0]) ?_ 0 _ rfl; (with_reducible repeat (first | refine blk_drewN ?_ _ | refine blk_drew ?_ | refine blk_alloc ?_ _)); exact BK370.out) hb); have n3_ := Aside0.mk (below_step (by repeat (first | (with_reducible first | exact HB.out | apply below_alloc | apply pw_below_drewN | apply below_drew1 | refine below_set ?_ GE351.out | refine below_set ?_ GE363.out | refine below_set ?_ GE370.out) | exact HB.out)) hb); clear BK351; clear BK363; clear BK370; clear HB; have BK351 := n0_; have BK363 := n1_; have BK370 := n2_; have HB := n3_; clear n0_ n1_ n2_ n3_; (try clear hb); (try clear hb2); (try clear hk); (try clear hi); have hcz35_0 : w34.cell? ⟨gb370, 0, none⟩ = some (.bool t364) := (blk_cell BK370.out 0).trans rfl; have hcz35_1 : w34.cell? ⟨gb370, 1, none⟩ = some (.int .i64 t365) := (blk_cell BK370.out 1).trans rfl; have hcz35_2 : w34.cell? ⟨gb370, 2, none⟩ = some (.int .i64 t366) := (blk_cell BK370.out 2).trans rfl; have hcz35_3 : w34.cell? ⟨gb370, 3, none⟩ = some (.int .i64 t367) := (blk_cell BK370.out 3).trans rfl; have hcz35_4 : w34.cell? ⟨gb370, 4, none⟩ = some (.int .i64 t368) := (blk_cell BK370.out 4).trans rfl; have hfz35_0 := blk_frozen BK370.out 0; have hfz35_1 := blk_frozen BK370.out 1; have hfz35_2 := blk_frozen BK370.out 2; have hfz35_3 := blk_frozen BK370.out 3; have hfz35_4 := blk_frozen BK370.out 4) | (go_at_call 48; (with_reducible refine (plat_Rate.calls k t364 t365 t366 t367 t368 8 5 t372 _ A10.out).mono ?_); rintro e w36 ⟨rfl, hb⟩; have n0_ := Aside0.mk (blk_below (g := gb351) (o := .cells #[.bool false, .string (⟨#[]⟩ : ByteArray), .bool false, .int .i64 2147483648, .int .i64 1, .int .i64 2, .int .i64 0, .int .i64 0] 75 (0, 0)) (by (with_reducible repeat (first | refine blk_drewN ?_ _ | refine blk_drew ?_ | refine blk_alloc ?_ _)); exact BK351.out) hb); have n1_ := Aside0.mk (blk_below (g := gb363) (o := .cells #[.bool t357, .int .i64 t358, .int .i64 t359, .int .i64 t360, .int .i64 t361] 73 (0, 0)) (by (with_reducible repeat (first | refine blk_drewN ?_ _ | refine blk_drew ?_ | refine blk_alloc ?_ _)); exact BK363.out) hb); have n2_ := Aside0.mk (blk_below (g := gb370) (o := .cells #[.bool t364, .int .i64 t365, .int .i64 t366, .int .i64 t367, .int .i64 t368] 73 (0, 0)) (by (with_reducible repeat (first | refine blk_drewN ?_ _ | refine blk_drew ?_ | refine blk_alloc ?_ _)); exact BK370.out) hb); have n3_ := Aside0.mk (below_step (by repeat (first | (with_reducible first | exact HB.out | apply below_alloc | apply pw_below_drewN | apply below_drew1 | refine below_set ?_ GE351.out | refine below_set ?_ GE363.out | refine below_set ?_ GE370.out) | exact HB.out)) hb); clear BK351; clear BK363; clear BK370; clear HB; have BK351 := n0_; have BK363 := n1_; have BK370 := n2_; have HB := n3_; clear n0_ n1_ n2_ n3_; (try clear hb); (try clear hb2); (try clear hk); (try clear hi); have hcz37_0 : w36.cell? ⟨gb370, 0, none⟩ = some (.bool t364) := (blk_cell BK370.out 0).trans rfl; have hcz37_1 : w36.cell? ⟨gb370, 1, none⟩ = some (.int .i64 t365) := (blk_cell BK370.out 1).trans rfl; have hcz37_2 : w36.cell? ⟨gb370, 2, none⟩ = some (.int .i64 t366) := (blk_cell BK370.out 2).trans rfl; have hcz37_3 : w36.cell? ⟨gb370, 3, none⟩ = some (.int .i64 t367) := (blk_cell BK370.out 3).trans rfl; have hcz37_4 : w36.cell? ⟨gb370, 4, none⟩ = some (.int .i64 t368) := (blk_cell BK370.out 4).trans rfl; have hfz37_0 := blk_frozen BK370.out 0; have hfz37_1 := blk_frozen BK370.out 1; have hfz37_2 := blk_frozen BK370.out 2; have hfz37_3 := blk_frozen BK370.out 3; have hfz37_4 := blk_frozen BK370.out 4) | (go_at_call 46; (with_reducible refine (plat_Check.calls k t364 t365 t366 t367 t368 t373 _ A12.out).mono ?_); rintro e w38 ⟨rfl, hb⟩; have n0_ := Aside0.mk (blk_below (g := gb351) (o := .cells #[.bool false, .string (⟨#[]⟩ : ByteArray), .bool false, .int .i64 2147483648, .int .i64 1, .int .i64 2, .int .i64 0, .int .i64 0] 75 (0, 0)) (by (with_reducible repeat (first | refine blk_drewN ?_ _ | refine blk_drew ?_ | refine blk_alloc ?_ _)); exact BK351.out) hb); have n1_ := Aside0.mk (blk_below (g := gb363) (o := .cells #[.bool t357, .int .i64 t358, .int .i64 t359, .int .i64 t360, .int .i64 t361] 73 (0, 0)) (by (with_reducible repeat (first | refine blk_drewN ?_ _ | refine blk_drew ?_ | refine blk_alloc ?_ _)); exact BK363.out) hb); have n2_ := Aside0.mk (blk_below (g := gb370) (o := .cells #[.bool t364, .int .i64 t365, .int .i64 t366, .int .i64 t367, .int .i64 t368] 73 (0, 0)) (by (with_reducible repeat (first | refine blk_drewN ?_ _ | refine blk_drew ?_ | refine blk_alloc ?_ _)); exact BK370.out) hb); have n3_ := Aside0.mk (below_step (by repeat (first | (with_reducible first | exact HB.out | apply below_alloc | apply pw_below_drewN | apply below_drew1 | refine below_set ?_ GE351.out | refine below_set ?_ GE363.out | refine below_set ?_ GE370.out) | exact HB.out)) hb); clear BK351; clear BK363; clear BK370; clear HB; have BK351 := n0_; have BK363 := n1_; have BK370 := n2_; have HB := n3_; clear n0_ n1_ n2_ n3_; (try clear hb); (try clear hb2); (try clear hk); (try clear hi)))
              go_ret
              exact ⟨by first | rfl | (simp [errW_none, errW_some] <;> rfl) | (simp [*, errW_none, errW_some] <;> rfl), by repeat (first | (with_reducible first | exact HB.out | apply below_alloc | apply pw_below_drewN | apply below_drew1 | refine below_set ?_ GE351.out | refine below_set ?_ GE363.out | refine below_set ?_ GE370.out) | exact HB.out)⟩
            · rw [if_neg c11] at H
              exact absurd H (by simp)
          · rw [if_neg c9] at H
            exact absurd H (by simp)
        · rw [if_neg c7] at H
          exact absurd H (by simp)
      · rw [if_neg c6] at H
        exact absurd H (by simp)
    · replace c5 := Bool.eq_false_iff.mpr c5
      subst c5
      have H1 : (none) = some r := by rw [if_neg (show ¬ (false = true) by decide)] at H; exact H
      clear H
      have H := H1
      clear H1
      exact absurd H (by simp)

end Go.Proofs.Ytmakhhgfidgfdaa.PH
