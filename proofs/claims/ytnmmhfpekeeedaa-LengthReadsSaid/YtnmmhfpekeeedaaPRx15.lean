/- Go functions of this seat as plain Lean functions, each with a proof that its call comes to just what that function says, wherever that function says anything: written by a program of this session. -/
import Derived.Test.YtnmmhfpekeeedaaPRx0
import Derived.Test.YtnmmhfpekeeedaaPRx1
import Derived.Test.YtnmmhfpekeeedaaPRx2
import Derived.Test.YtnmmhfpekeeedaaPRx3
import Derived.Test.YtnmmhfpekeeedaaPRx4
import Derived.Test.YtnmmhfpekeeedaaPRx9
import Derived.Test.YtnmmhfpekeeedaaPRx11
import Derived.Test.YtnmmhfpekeeedaaPRx12
import Derived.Test.YtnmmhfpekeeedaaPRx14
namespace Go.Proofs.Ytnmmhfpekeeedaa.PR
open Go.RowKit Go.Proofs.YtnmmhfpekeeedaaW.PrintWords Go.Proofs.YtnmmhfpekeeedaaW.PrintLast Go.Proofs.YtnmmhfpekeeedaaW.PrintMore
attribute [local go_sem] max2_int min2_int max_two min_two max_three min_three max_four min_four   -- for this text's walks alone
set_option linter.unusedVariables false
set_option linter.unusedSimpArgs false

attribute [local go_sem] isSome_setCell
attribute [local go_sem high] eqA25 eqA34 eqA60
/-! ### regimenlaw14_LengthReads: function 9 -/
theorem fld9_0 (a : Int) (b : ByteArray) (c d : Int) (w : World) : Sem.run Try.prog (Instr.field 34 (Value.agg #[Value.int IntKind.i64 a, Value.string b, Value.int IntKind.i64 c, Value.int IntKind.i64 d]) 0) w = .ok (.int .i64 a) w := by kernel_rfl
theorem fld9_1 (a : Int) (b : ByteArray) (c d : Int) (w : World) : Sem.run Try.prog (Instr.field 34 (Value.agg #[Value.int IntKind.i64 a, Value.string b, Value.int IntKind.i64 c, Value.int IntKind.i64 d]) 1) w = .ok (.string b) w := by kernel_rfl
theorem fld9_2 (a : Int) (b : ByteArray) (c d : Int) (w : World) : Sem.run Try.prog (Instr.field 34 (Value.agg #[Value.int IntKind.i64 a, Value.string b, Value.int IntKind.i64 c, Value.int IntKind.i64 d]) 2) w = .ok (.agg #[.int .i64 c, .int .i64 d]) w := by kernel_rfl
attribute [local go_sem] fld9_0 fld9_1 fld9_2
def regimenlaw14_LengthReads.l0 : Nat → List (S34) → Int → Option (Bool)
 | 0, _, _ => none
 | k + 1, x0, x3 => if x3 < (x0.length : Int) then (if 0 ≤ x3 then (if (((rd_T34 x0 x3).f1).size : Int) > 100 then ((regimenlaw14_awake.f k).bind fun t585 => (some t585)) else (regimenlaw14_LengthReads.l0 k x0 (wrap64 (x3 + 1)))) else (none)) else ((cursor_New.f x0).bind fun bt586 => ((length_Read.f k bt586.1 bt586.2.1 bt586.2.2.1 bt586.2.2.2.1 bt586.2.2.2.2.1 bt586.2.2.2.2.2.1 bt586.2.2.2.2.2.2).bind fun bt594 => ((regimenref14_Read.f k x0 0 0 0 0).bind fun bt604 => ((cursor_Cursor_Fault.f bt594.2.2.1 bt594.2.2.2.1 bt594.2.2.2.2.1 bt594.2.2.2.2.2.1 bt594.2.2.2.2.2.2.1 bt594.2.2.2.2.2.2.2.1 bt594.2.2.2.2.2.2.2.2).bind fun bt615 => (if (bt594.1 == bt604.2.2.2.2.2.1 && (bt594.2.1 == bt604.2.2.2.2.2.2)) = true then (if (bt615.1 == bt604.2.2.1 && (bt615.2.1 == bt604.2.2.2.1)) = true then (if bt615.2.2.1 = bt604.2.2.2.2.1 then ((cursor_Cursor_Peek.f bt615.2.2.2.1 bt615.2.2.2.2.1 bt615.2.2.2.2.2.1 bt615.2.2.2.2.2.2.1 bt615.2.2.2.2.2.2.2.1 bt615.2.2.2.2.2.2.2.2.1 bt615.2.2.2.2.2.2.2.2.2).bind fun bt626 => ((regimenref13_Peek.f bt604.1 bt604.2.1 bt604.2.2.1 bt604.2.2.2.1 bt604.2.2.2.2.1).bind fun bt637 => (if (bt626.1 == bt637.1 && (bt626.2.1.toList == bt637.2.1.toList && ((bt626.2.2.1 == bt637.2.2.1 && (bt626.2.2.2.1 == bt637.2.2.2))))) = true then ((regimenlaw14_awake.f k).bind fun t641 => (some t641)) else (none)))) else (none)) else (none)) else (none))))))
def regimenlaw14_LengthReads.f (k : Nat) (l0 : List (S34)) : Option (Bool) := if (l0.length : Int) > 60 then ((regimenlaw14_awake.f k).bind fun t583 => (some t583)) else (regimenlaw14_LengthReads.l0 k l0 0)
theorem regimenlaw14_LengthReads.mono_l : ∀ k, (∀ y0 y1, LeO (regimenlaw14_LengthReads.l0 k y0 y1) (regimenlaw14_LengthReads.l0 (k + 1) y0 y1))
 | 0 => fun _ _ r h => by simp [regimenlaw14_LengthReads.l0] at h
 | k + 1 => by
  have ih0 := regimenlaw14_LengthReads.mono_l k
  ·intro y0 y1
   unfold regimenlaw14_LengthReads.l0
   repeat' first
   | (with_reducible exact ih0 _ _)
   | (with_reducible exact length_Read.mono _ _ _ _ _ _ _ _)
   | (with_reducible exact regimenlaw14_awake.mono _)
   | (with_reducible exact regimenref14_Read.mono _ _ _ _ _ _)
   | (with_reducible exact LeO.refl _)
   | (with_reducible exact LeO.none _)
   | (with_reducible refine LeO.ite ?_ ?_)
   | (with_reducible refine LeO.bind ?_ (fun _ => ?_))
   | exact ih0 _ _
   | exact length_Read.mono _ _ _ _ _ _ _ _
   | exact regimenlaw14_awake.mono _
   | exact regimenref14_Read.mono _ _ _ _ _ _
   | exact LeO.none _
   | refine LeO.ite ?_ ?_
   | refine LeO.bind ?_ (fun _ => ?_)
theorem regimenlaw14_LengthReads.mono : ∀ a0 k, LeO (regimenlaw14_LengthReads.f k a0) (regimenlaw14_LengthReads.f (k + 1) a0) := by
 intro a0 k
 have ih0 := regimenlaw14_LengthReads.mono_l k
 unfold regimenlaw14_LengthReads.f
 repeat' first
   | (with_reducible exact ih0 _ _)
   | (with_reducible exact length_Read.mono _ _ _ _ _ _ _ _)
   | (with_reducible exact regimenlaw14_awake.mono _)
   | (with_reducible exact regimenref14_Read.mono _ _ _ _ _ _)
   | (with_reducible exact LeO.refl _)
   | (with_reducible exact LeO.none _)
   | (with_reducible refine LeO.ite ?_ ?_)
   | (with_reducible refine LeO.bind ?_ (fun _ => ?_))
   | exact ih0 _ _
   | exact length_Read.mono _ _ _ _ _ _ _ _
   | exact regimenlaw14_awake.mono _
   | exact regimenref14_Read.mono _ _ _ _ _ _
   | exact LeO.none _
   | refine LeO.ite ?_ ?_
   | refine LeO.bind ?_ (fun _ => ?_)
def regimenlaw14_LengthReads.T12 : Bool × List (List Nat × List Nat) := (true, [([], []), ([], []), ([0, 1], [0, 1]), ([2], [2]), ([3], [3]), ([3], [3]), ([5, 3], [3, 5]), ([4, 6, 3], [3, 4, 6]), ([3, 7], [3, 7]), ([8, 3], [8]), ([9], [9]), ([9], [9]), ([11, 9], [9, 11]), ([10, 12, 9], [9, 10, 12]), ([9, 13], [9, 13]), ([14, 9], [14]), ([15], [15]), ([16, 15, 15], [15, 16]), ([15], [15]), ([18, 17, 15], [15, 18]), ([17, 19, 15], [15, 17, 19]), ([15, 20], [15, 20]), ([21, 19], [21]), ([22, 22], [22]), ([22, 23], [22, 23]), ([24, 23, 0, 1, 2, 3, 4, 5, 6, 7, 8, 9, 10, 11, 12, 13, 14, 15, 16, 17, 18, 19, 20, 21, 22, 23, 24], [24])])
def regimenlaw14_LengthReads.B12 : List Nat := [0, 0, 3, 7, 15, 15, 47, 127, 255, 511, 1023, 1023, 3071, 8191, 16383, 32767, 65535, 131071, 65535, 524287, 1048575, 2097151, 4194303, 8388607, 16777215, 33554431]
theorem regimenlaw14_LengthReads.tab12 : rtab .any (opsOf Try.f9 12) = regimenlaw14_LengthReads.T12 := by kernel_rfl
theorem regimenlaw14_LengthReads.bits12 : waitsOk regimenlaw14_LengthReads.T12.2 regimenlaw14_LengthReads.B12 = true := by kernel_rfl
set_option maxHeartbeats 8000000 in
set_option maxRecDepth 100000 in
theorem regimenlaw14_LengthReads.calls (k : Nat) (A0 : Option Addr) (c0 : Nat) (l0 : List (S34)) (r : Bool) (w : World) (hr0 : Kd.C k34 w A0 l0.length l0) (hc0 : l0.length ≤ c0) (h : regimenlaw14_LengthReads.f k l0 = some r) :
  Calls Try.prog 9 #[.slice A0 l0.length c0] w fun e w' => e = .returned (.bool r) ∧ Below w.heap.size w w' := by
 have hu60 := Try.underlying60
 have hu68 := Try.underlying68
 have hu25 := Try.underlying25
 have HR0 := Aside0.mk hr0
 have HC0 := Aside0.mk hc0
 clear hr0 hc0
 have HB := Aside0.mk (Below.refl w.heap.size w)
 have H : (if (l0.length : Int) > 60 then ((regimenlaw14_awake.f k).bind fun t583 => (some t583)) else (regimenlaw14_LengthReads.l0 k l0 0)) = some r := h
 clear h
 by_cases c2 : (l0.length : Int) > 60
 ·rw [if_pos c2] at H
  have c2b0 : decide (60 < (l0.length : Int)) = true := decide_eq_true c2
  have c2b1 : decide (60 < l0.length) = true := decide_eq_true (by omega)
  clear c2
  replace H := Option.bind_eq_some_iff.mp H
  obtain ⟨t583, A30, H⟩ := H
  replace H : (some t583) = some r := H
  have A3 := Aside0.mk A30
  clear A30
  obtain rfl := Option.some.inj H
  go_enter Try.func9, Try.ntmps9
  go_wp2_with (first | ((with_reducible refine gate_callee (f := 31) rfl ?_); refine goesL_ (some 13) rfl rfl Try.func31 (by kernel_rfl) rfl #[] rfl (by (try simp only [List.map_toArray, List.map_cons, List.map_nil]); first | done | rfl | (simp only [List.length_drop, List.length_take]; rfl)) ?_; (with_reducible refine (regimenlaw14_awake.calls k  t583 _ A3.out).mono ?_); rintro e w4 ⟨rfl, hb⟩; refine ⟨_, rfl, ?_⟩; have n0_ := Aside0.mk (below_step (by repeat (first | (with_reducible first | exact HB.out | apply pw_below_drewN) | exact HB.out)) hb); clear HB; have HB := n0_; clear n0_; (try clear hb)))
  go_ret
  exact ⟨by first | rfl | (simp [*] <;> rfl), by repeat (first | (with_reducible first | exact HB.out | apply pw_below_drewN) | exact HB.out)⟩
 ·rw [if_neg c2] at H
  have c2b0 : decide (60 < (l0.length : Int)) = false := decide_eq_false c2
  have c2b1 : decide (60 < l0.length) = false := decide_eq_false (by omega)
  clear c2
  have H' := Aside0.mk H
  clear H
  go_enter Try.func9, Try.ntmps9
  go_wp2
  go_loopg [3] k (fun kq v3 w' => ∃ (x3_1 : Int), v3 = .int .i64 x3_1 ∧ Aside0 (regimenlaw14_LengthReads.l0 kq l0 x3_1 = some r) ∧ Aside0 (kq ≤ k) ∧ Aside0 (Below w.heap.size w w'))
  case atStart => exact ⟨(0), (by first | rfl | (simp; done) | (simp [*]; done)), H', ⟨Nat.le_refl _⟩, ⟨by repeat (first | (with_reducible first | exact HB.out | apply pw_below_drewN) | exact HB.out)⟩⟩
  case round =>
   clear H'
   try clear c2
   try clear c2b0
   try clear c2b1
   try clear p2
   try clear c3
   obtain ⟨x3_1, rfl, HA, HK1, HB⟩ := hrel
   cases gk with
   | zero => exact absurd HA.out (by simp [regimenlaw14_LengthReads.l0])
   | succ k1 =>
    have H := HA.out
    clear HA
    simp only [regimenlaw14_LengthReads.l0] at H
    by_cases c5 : x3_1 < (l0.length : Int)
    ·rw [if_pos c5] at H
     have c5b0 : decide (x3_1 < (l0.length : Int)) = true := decide_eq_true c5
     clear c5
     by_cases c6 : 0 ≤ x3_1
     ·rw [if_pos c6] at H
      have c6b0 : decide (0 ≤ x3_1) = true := decide_eq_true c6
      clear c6
      by_cases c7 : (((rd_T34 l0 x3_1).f1).size : Int) > 100
      ·rw [if_pos c7] at H
       have c7b0 : decide (100 < (((rd_T34 l0 x3_1).f1).size : Int)) = true := decide_eq_true c7
       have c7b1 : decide (100 < ((rd_T34 l0 x3_1).f1).size) = true := decide_eq_true (by omega)
       clear c7
       replace H := Option.bind_eq_some_iff.mp H
       obtain ⟨t585, A80, H⟩ := H
       replace H : (some t585) = some r := H
       have A8 := Aside0.mk A80
       clear A80
       obtain rfl := Option.some.inj H
       have p584 : 0 ≤ (x3_1 : Int) := of_decide_eq_true (by first | (with_reducible assumption) | assumption)
       have q584 : x3_1 < (l0.length : Int) := of_decide_eq_true (by first | (with_reducible assumption) | assumption)
       obtain ⟨ad584, e584, hx584_0, hx584_1, hx584_2, hx584_3⟩ := at_T34 HR0.out x3_1 p584 q584
       cases e584
       replace hx584_0 := (HB.out.cell (World.block_lt_of_cell? w _ hx584_0)).trans hx584_0
       replace hx584_1 := (HB.out.cell (World.block_lt_of_cell? w _ hx584_1)).trans hx584_1
       replace hx584_2 := (HB.out.cell (World.block_lt_of_cell? w _ hx584_2)).trans hx584_2
       replace hx584_3 := (HB.out.cell (World.block_lt_of_cell? w _ hx584_3)).trans hx584_3
       replace p584 := eq_true p584
       replace q584 := eq_true q584
       go_wp2_with (first | ((with_reducible refine gate_callee (f := 31) rfl ?_); refine goesL_ (some 27) rfl rfl Try.func31 (by kernel_rfl) rfl #[] rfl (by (try simp only [List.map_toArray, List.map_cons, List.map_nil]); first | done | rfl | (simp only [List.length_drop, List.length_take]; rfl)) ?_; (with_reducible refine (regimenlaw14_awake.calls k1  t585 _ A8.out).mono ?_); rintro e w9 ⟨rfl, hb⟩; refine ⟨_, rfl, ?_⟩; have n0_ := Aside0.mk (below_step (by repeat (first | (with_reducible first | exact HB.out | apply pw_below_drewN) | exact HB.out)) hb); clear HB; have HB := n0_; clear n0_; (try clear hb)))
       go_ret
       exact ⟨by first | rfl | (simp [*] <;> rfl), by repeat (first | (with_reducible first | exact HB.out | apply pw_below_drewN) | exact HB.out)⟩
      ·rw [if_neg c7] at H
       have c7b0 : decide (100 < (((rd_T34 l0 x3_1).f1).size : Int)) = false := decide_eq_false c7
       have c7b1 : decide (100 < ((rd_T34 l0 x3_1).f1).size) = false := decide_eq_false (by omega)
       clear c7
       have H' := Aside0.mk H
       clear H
       have p584 : 0 ≤ (x3_1 : Int) := of_decide_eq_true (by first | (with_reducible assumption) | assumption)
       have q584 : x3_1 < (l0.length : Int) := of_decide_eq_true (by first | (with_reducible assumption) | assumption)
       obtain ⟨ad584, e584, hx584_0, hx584_1, hx584_2, hx584_3⟩ := at_T34 HR0.out x3_1 p584 q584
       cases e584
       replace hx584_0 := (HB.out.cell (World.block_lt_of_cell? w _ hx584_0)).trans hx584_0
       replace hx584_1 := (HB.out.cell (World.block_lt_of_cell? w _ hx584_1)).trans hx584_1
       replace hx584_2 := (HB.out.cell (World.block_lt_of_cell? w _ hx584_2)).trans hx584_2
       replace hx584_3 := (HB.out.cell (World.block_lt_of_cell? w _ hx584_3)).trans hx584_3
       replace p584 := eq_true p584
       replace q584 := eq_true q584
       go_wp2
       go_roundg k1
       case measure => have := HK1.out; omega
       case rel => exact ⟨(wrap64 (x3_1 + 1)), (by first | rfl | (simp; done) | (simp [*]; done)), H', ⟨by have := HK1.out; omega⟩, ⟨by repeat (first | (with_reducible first | exact HB.out | apply pw_below_drewN) | exact HB.out)⟩⟩
     ·rw [if_neg c6] at H
      exact absurd H (by simp)
    ·rw [if_neg c5] at H
     have c5b0 : decide (x3_1 < (l0.length : Int)) = false := decide_eq_false c5
     clear c5
     replace H := Option.bind_eq_some_iff.mp H
     obtain ⟨⟨t586, t587, t588, t589, t590, t591, t592⟩, A100, H⟩ := H
     replace H : ((length_Read.f k1 t586 t587 t588 t589 t590 t591 t592).bind fun bt594 => ((regimenref14_Read.f k1 l0 0 0 0 0).bind fun bt604 => ((cursor_Cursor_Fault.f bt594.2.2.1 bt594.2.2.2.1 bt594.2.2.2.2.1 bt594.2.2.2.2.2.1 bt594.2.2.2.2.2.2.1 bt594.2.2.2.2.2.2.2.1 bt594.2.2.2.2.2.2.2.2).bind fun bt615 => (if (bt594.1 == bt604.2.2.2.2.2.1 && (bt594.2.1 == bt604.2.2.2.2.2.2)) = true then (if (bt615.1 == bt604.2.2.1 && (bt615.2.1 == bt604.2.2.2.1)) = true then (if bt615.2.2.1 = bt604.2.2.2.2.1 then ((cursor_Cursor_Peek.f bt615.2.2.2.1 bt615.2.2.2.2.1 bt615.2.2.2.2.2.1 bt615.2.2.2.2.2.2.1 bt615.2.2.2.2.2.2.2.1 bt615.2.2.2.2.2.2.2.2.1 bt615.2.2.2.2.2.2.2.2.2).bind fun bt626 => ((regimenref13_Peek.f bt604.1 bt604.2.1 bt604.2.2.1 bt604.2.2.2.1 bt604.2.2.2.2.1).bind fun bt637 => (if (bt626.1 == bt637.1 && (bt626.2.1.toList == bt637.2.1.toList && ((bt626.2.2.1 == bt637.2.2.1 && (bt626.2.2.2.1 == bt637.2.2.2))))) = true then ((regimenlaw14_awake.f k1).bind fun t641 => (some t641)) else (none)))) else (none)) else (none)) else (none))))) = some r := H
     have A10 := Aside0.mk A100
     clear A100
     replace H := Option.bind_eq_some_iff.mp H
     obtain ⟨⟨t594, t595, t596, t597, t598, t599, t600, t601, t602⟩, A110, H⟩ := H
     replace H : ((regimenref14_Read.f k1 l0 0 0 0 0).bind fun bt604 => ((cursor_Cursor_Fault.f t596 t597 t598 t599 t600 t601 t602).bind fun bt615 => (if (t594 == bt604.2.2.2.2.2.1 && (t595 == bt604.2.2.2.2.2.2)) = true then (if (bt615.1 == bt604.2.2.1 && (bt615.2.1 == bt604.2.2.2.1)) = true then (if bt615.2.2.1 = bt604.2.2.2.2.1 then ((cursor_Cursor_Peek.f bt615.2.2.2.1 bt615.2.2.2.2.1 bt615.2.2.2.2.2.1 bt615.2.2.2.2.2.2.1 bt615.2.2.2.2.2.2.2.1 bt615.2.2.2.2.2.2.2.2.1 bt615.2.2.2.2.2.2.2.2.2).bind fun bt626 => ((regimenref13_Peek.f bt604.1 bt604.2.1 bt604.2.2.1 bt604.2.2.2.1 bt604.2.2.2.2.1).bind fun bt637 => (if (bt626.1 == bt637.1 && (bt626.2.1.toList == bt637.2.1.toList && ((bt626.2.2.1 == bt637.2.2.1 && (bt626.2.2.2.1 == bt637.2.2.2))))) = true then ((regimenlaw14_awake.f k1).bind fun t641 => (some t641)) else (none)))) else (none)) else (none)) else (none)))) = some r := H
     have A11 := Aside0.mk A110
     clear A110
     replace H := Option.bind_eq_some_iff.mp H
     obtain ⟨⟨t604, t607, t608, t609, t610, t611, t612⟩, A120, H⟩ := H
     replace H : ((cursor_Cursor_Fault.f t596 t597 t598 t599 t600 t601 t602).bind fun bt615 => (if (t594 == t611 && (t595 == t612)) = true then (if (bt615.1 == t608 && (bt615.2.1 == t609)) = true then (if bt615.2.2.1 = t610 then ((cursor_Cursor_Peek.f bt615.2.2.2.1 bt615.2.2.2.2.1 bt615.2.2.2.2.2.1 bt615.2.2.2.2.2.2.1 bt615.2.2.2.2.2.2.2.1 bt615.2.2.2.2.2.2.2.2.1 bt615.2.2.2.2.2.2.2.2.2).bind fun bt626 => ((regimenref13_Peek.f t604 t607 t608 t609 t610).bind fun bt637 => (if (bt626.1 == bt637.1 && (bt626.2.1.toList == bt637.2.1.toList && ((bt626.2.2.1 == bt637.2.2.1 && (bt626.2.2.2.1 == bt637.2.2.2))))) = true then ((regimenlaw14_awake.f k1).bind fun t641 => (some t641)) else (none)))) else (none)) else (none)) else (none))) = some r := H
     have A12 := Aside0.mk A120
     clear A120
     replace H := Option.bind_eq_some_iff.mp H
     obtain ⟨⟨t615, t616, t617, t618, t619, t620, t621, t622, t623, t624⟩, A130, H⟩ := H
     replace H : (if (t594 == t611 && (t595 == t612)) = true then (if (t615 == t608 && (t616 == t609)) = true then (if t617 = t610 then ((cursor_Cursor_Peek.f t618 t619 t620 t621 t622 t623 t624).bind fun bt626 => ((regimenref13_Peek.f t604 t607 t608 t609 t610).bind fun bt637 => (if (bt626.1 == bt637.1 && (bt626.2.1.toList == bt637.2.1.toList && ((bt626.2.2.1 == bt637.2.2.1 && (bt626.2.2.2.1 == bt637.2.2.2))))) = true then ((regimenlaw14_awake.f k1).bind fun t641 => (some t641)) else (none)))) else (none)) else (none)) else (none)) = some r := H
     have A13 := Aside0.mk A130
     clear A130
     by_cases c14 : (t594 == t611 && (t595 == t612)) = true
     ·rw [if_pos c14] at H
      have c14b0 : (t594 == t611 && (t595 == t612)) = true := c14
      (try (have c14b1 : decide (t594 = t611 && (t595 == t612)) = true := by simpa using c14))
      (try (have c14b2 : (t594 == t611 && (t595 == t612)) = true := by simpa using c14))
      clear c14
      by_cases c15 : (t615 == t608 && (t616 == t609)) = true
      ·rw [if_pos c15] at H
       have c15b0 : (t615 == t608 && (t616 == t609)) = true := c15
       (try (have c15b1 : decide (t615 = t608 && (t616 == t609)) = true := by simpa using c15))
       (try (have c15b2 : (t615 == t608 && (t616 == t609)) = true := by simpa using c15))
       clear c15
       (try (have c15_c14b0 := c14b0; simp only [c15b0, Bool.true_and, Bool.and_true, Bool.false_or, Bool.or_false, Bool.not_true, Bool.not_false] at c15_c14b0))
       by_cases c16 : t617 = t610
       ·rw [if_pos c16] at H
        have c16b0 : (t617 == t610) = true := beq_iff_eq.mpr c16
        have c16b1 : (t617 != t610) = false := bne_eq_false_iff_eq.mpr c16
        clear c16
        (try (have c16_c14b0 := c14b0; simp only [c16b0, Bool.true_and, Bool.and_true, Bool.false_or, Bool.or_false, Bool.not_true, Bool.not_false] at c16_c14b0))
        (try (have c16_c15b0 := c15b0; simp only [c16b0, Bool.true_and, Bool.and_true, Bool.false_or, Bool.or_false, Bool.not_true, Bool.not_false] at c16_c15b0))
        replace H := Option.bind_eq_some_iff.mp H
        obtain ⟨⟨t626, t627, t628, t629, t630, t631, t632, t633, t634, t635, t636⟩, A170, H⟩ := H
        replace H : ((regimenref13_Peek.f t604 t607 t608 t609 t610).bind fun bt637 => (if (t626 == bt637.1 && (t627.toList == bt637.2.1.toList && ((t628 == bt637.2.2.1 && (t629 == bt637.2.2.2))))) = true then ((regimenlaw14_awake.f k1).bind fun t641 => (some t641)) else (none))) = some r := H
        have A17 := Aside0.mk A170
        clear A170
        replace H := Option.bind_eq_some_iff.mp H
        obtain ⟨⟨t637, t638, t639, t640⟩, A180, H⟩ := H
        replace H : (if (t626 == t637 && (t627.toList == t638.toList && ((t628 == t639 && (t629 == t640))))) = true then ((regimenlaw14_awake.f k1).bind fun t641 => (some t641)) else (none)) = some r := H
        have A18 := Aside0.mk A180
        clear A180
        by_cases c19 : (t626 == t637 && (t627.toList == t638.toList && ((t628 == t639 && (t629 == t640))))) = true
        ·rw [if_pos c19] at H
         have c19b0 : (t626 == t637 && (t627.toList == t638.toList && ((t628 == t639 && (t629 == t640))))) = true := c19
         (try (have c19b1 : decide (t626 = t637 && (t627.toList == t638.toList && ((t628 == t639 && (t629 == t640))))) = true := by simpa using c19))
         (try (have c19b2 : (t626 == t637 && (t627.toList == t638.toList && ((t628 == t639 && (t629 == t640))))) = true := by simpa using c19))
         clear c19
         (try (have c19_c14b0 := c14b0; simp only [c19b0, Bool.true_and, Bool.and_true, Bool.false_or, Bool.or_false, Bool.not_true, Bool.not_false] at c19_c14b0))
         (try (have c19_c15b0 := c15b0; simp only [c19b0, Bool.true_and, Bool.and_true, Bool.false_or, Bool.or_false, Bool.not_true, Bool.not_false] at c19_c15b0))
         replace H := Option.bind_eq_some_iff.mp H
         obtain ⟨t641, A200, H⟩ := H
         replace H : (some t641) = some r := H
         have A20 := Aside0.mk A200
         clear A200
         obtain rfl := Option.some.inj H
         try go_wp2_with (first | ((with_reducible refine gate_callee (f := 32) rfl ?_); refine goesL_ (some 29) rfl rfl Try.func32 (by kernel_rfl) rfl #[.slice A0 l0.length c0] rfl (by (try simp only [List.map_toArray, List.map_cons, List.map_nil]); first | done | rfl | (simp only [List.length_drop, List.length_take]; rfl)) ?_; (with_reducible refine (cursor_New.calls _ _ l0 t586 t587 t588 t589 t590 t591 t592 w _ ?side1 ?side2 ?side3 A10.out).mono ?_); (case side1 => repeat (first | (with_reducible first | exact HB.out | apply pw_below_drewN) | exact HB.out)); (case side2 => exact HR0.out); (case side3 => exact HC0.out); rintro e w21 ⟨g593, rfl, hi, hb, hb2⟩; refine ⟨_, rfl, ?_⟩; have n0_ := Aside0.mk (hb); have n1_ := Aside0.mk (hi); clear HB; have HB := n0_; have HI593 := n1_; clear n0_ n1_; (try clear hb)) | ((with_reducible refine gate_callee (f := 33) rfl ?_); refine goesL_ (some 31) rfl rfl Try.func33 (by kernel_rfl) rfl #[.pointer (some ⟨g593, 0, none⟩)] rfl (by (try simp only [List.map_toArray, List.map_cons, List.map_nil]); first | done | rfl | (simp only [List.length_drop, List.length_take]; rfl)) ?_; (with_reducible refine (length_Read.calls k1 g593 t586 t587 t588 t589 t590 t591 t592 t594 t595 t596 t597 t598 t599 t600 t601 t602 w _ ?side1 ?side2 A11.out).mono ?_); (case side1 => repeat (first | (with_reducible first | exact HI593.out | apply IsS48.alloc | apply IsS48.drewN | apply IsS48.drew | apply IsS48.set_0 | apply IsS48.set_2 | apply IsS48.set_3 | apply IsS48.set_4 | apply IsS48.set_5 | apply IsS48.set_6) | exact HI593.out)); (case side2 => repeat (first | (with_reducible first | exact HB.out | apply pw_below_drewN | refine below_set ?_ (IsS48.ge HI593.out)) | exact HB.out)); rintro e w22 ⟨rfl, hi, hb, hk⟩; refine ⟨_, rfl, ?_⟩; have n0_ := Aside0.mk (hb); have n1_ := Aside0.mk (hi); clear HB HI593; have HB := n0_; have HI593 := n1_; clear n0_ n1_; (try clear hb)) | ((with_reducible refine gate_dst (N := 5) rfl ?_); refine box_event ?hg (N := 5) ?hd (cs := #[.int .i64 0, .int .i64 0]) (t := 60) ?hr ?_; (case hd => rfl); (case hg => rfl); (case hr => first | (go_simp; done) | (go_simp; rfl)); intro gb603 hg w23 hbox hb; have n0_ := Aside0.mk (IsS48.below (by repeat (first | (with_reducible first | exact HI593.out | apply IsS48.alloc | apply IsS48.drewN | apply IsS48.drew | apply IsS48.set_0 | apply IsS48.set_2 | apply IsS48.set_3 | apply IsS48.set_4 | apply IsS48.set_5 | apply IsS48.set_6) | exact HI593.out)) hb); have n1_ := Aside0.mk (below_step (by repeat (first | (with_reducible first | exact HB.out | apply pw_below_drewN | refine below_set ?_ (IsS48.ge HI593.out)) | exact HB.out)) hb); have n2_ := Aside0.mk (hbox); have n3_ := Aside0.mk ((by rw [hg]; exact (below_size (by repeat (first | (with_reducible first | exact HB.out | apply pw_below_drewN | refine below_set ?_ (IsS48.ge HI593.out)) | exact HB.out))) : w.heap.size ≤ gb603)); have n4_ := n3_; have n5_ := Aside0.mk ((by rw [hg]; exact Nat.ne_of_lt (IsS48.lt (show IsS48 w _ g593 t596 t597 t598 t599 t600 t601 t602 from by repeat (first | (with_reducible first | exact HI593.out | apply IsS48.alloc | apply IsS48.drewN | apply IsS48.drew | apply IsS48.set_0 | apply IsS48.set_2 | apply IsS48.set_3 | apply IsS48.set_4 | apply IsS48.set_5 | apply IsS48.set_6) | exact HI593.out))) : g593 ≠ gb603)); have n6_ := Aside0.mk ((by rw [hg]; exact Nat.ne_of_gt (IsS48.lt (show IsS48 w _ g593 t596 t597 t598 t599 t600 t601 t602 from by repeat (first | (with_reducible first | exact HI593.out | apply IsS48.alloc | apply IsS48.drewN | apply IsS48.drew | apply IsS48.set_0 | apply IsS48.set_2 | apply IsS48.set_3 | apply IsS48.set_4 | apply IsS48.set_5 | apply IsS48.set_6) | exact HI593.out))) : gb603 ≠ g593)); clear HI593 HB; have HI593 := n0_; have HB := n1_; have BK603 := n2_; have GW603 := n3_; have GE603 := n4_; have NB593_603 := n5_; have NB603_593 := n6_; clear n0_ n1_ n2_ n3_ n4_ n5_ n6_; clear hb hbox hg; have hnb24 := NB603_593.out; have hnc24 := NB593_603.out; have hcz25_0 : w23.cell? ⟨gb603, 0, none⟩ = some (.int .i64 0) := (blk_cell BK603.out 0).trans rfl; have hcz25_1 : w23.cell? ⟨gb603, 1, none⟩ = some (.int .i64 0) := (blk_cell BK603.out 1).trans rfl; have hfz25_0 := blk_frozen BK603.out 0; have hfz25_1 := blk_frozen BK603.out 1) | ((with_reducible refine gate_store (t := 60) (p := 5) rfl ?_); refine store_event (t := 60) (p := 5) (v := ?vo_w26) (w1 := ((w23.setCell ⟨gb603, 0, none⟩ (.int .i64 t594)).setCell ⟨gb603, 1, none⟩ (.int .i64 t595))) ?hg ?ho ?hn ?hr ?_; (case ho => rfl); (case hg => rfl); (case hn => rfl); (case hr => first | (go_simp; done) | (go_simp; rfl)); intro w26 hw; have n0_ : Aside0 (w26.heap[gb603]? = some (.cells #[.int .i64 t594, .int .i64 t595] 60 (0, 0))) := ⟨(by rw [hw]; exact (by (with_reducible repeat refine blk_drewN ?_ _); refine blk_put (cs := #[.int .i64 t594, .int .i64 0]) ?_ 1 _ rfl; (with_reducible repeat refine blk_drewN ?_ _); refine blk_put (cs := #[.int .i64 0, .int .i64 0]) ?_ 0 _ rfl; (with_reducible repeat refine blk_drewN ?_ _); exact BK603.out))⟩; have n1_ : Aside0 (IsS48 w w26 g593 t596 t597 t598 t599 t600 t601 t602) := ⟨(by rw [hw]; exact (by repeat (first | (with_reducible first | exact HI593.out | apply IsS48.alloc | apply IsS48.drewN | apply IsS48.drew | refine IsS48.far ?_ NB593_603.out _ | apply IsS48.set_0 | apply IsS48.set_2 | apply IsS48.set_3 | apply IsS48.set_4 | apply IsS48.set_5 | apply IsS48.set_6) | exact HI593.out)))⟩; have n2_ : Aside0 (Below w.heap.size w w26) := ⟨(by rw [hw]; exact (by repeat (first | (with_reducible first | exact HB.out | apply pw_below_drewN | refine below_set ?_ (IsS48.ge HI593.out) | refine below_set ?_ GE603.out) | exact HB.out)))⟩; clear hw BK603 HI593 HB; have BK603 := n0_; have HI593 := n1_; have HB := n2_; clear n0_ n1_ n2_) | ((with_reducible refine gate_callee (f := 35) rfl ?_); refine goesL_ (some 35) rfl rfl Try.func35 (by kernel_rfl) rfl #[.agg #[.slice A0 l0.length c0, .int .i64 0, .int .i64 0, .int .i64 0, .int .i64 0]] rfl (by (try simp only [List.map_toArray, List.map_cons, List.map_nil]); first | done | rfl | (simp only [List.length_drop, List.length_take]; rfl)) ?_; (with_reducible refine (regimenref14_Read.calls k1 (fun k_ => k_ < w.heap.size) _ _ l0 0 0 0 0 t604 t607 t608 t609 t610 t611 t612 _ ?side1 A12.out).mono ?_); (case side1 => exact Kd.V_mk HC0.out (Kd.F_below (Kd.C_F k34_heap HR0.out) (by repeat (first | (with_reducible first | exact HB.out | apply pw_below_drewN | refine below_set ?_ (IsS48.ge HI593.out) | refine below_set ?_ GE603.out) | exact HB.out)))); rintro e w27 ⟨v605, rfl, ho0, hb⟩; refine ⟨_, rfl, ?_⟩; have n0_ := Aside0.mk (Kd.V_lower (Kd.V_mono (ok' := fun k_ => k_ ≠ gb603 ∧ k_ ≠ g593) ho0 (fun k_ hk_ => ⟨Or.elim hk_ (fun hs_ => fun e_ => Nat.not_le.2 hs_ (by rw [e_]; exact GW603.out)) (fun hn_ => (Kd.freshB (g := gb603) (o := .cells #[.int .i64 t594, .int .i64 t595] 60 (0, 0)) (by (with_reducible repeat refine blk_drewN ?_ _); exact BK603.out) k_ hn_)), Or.elim hk_ (fun hs_ => fun e_ => Nat.not_le.2 hs_ (by rw [e_]; exact IsS48.ge HI593.out)) (fun hn_ => (IsS48.fresh (by repeat (first | (with_reducible first | exact HI593.out | apply IsS48.alloc | apply IsS48.drewN | apply IsS48.drew | refine IsS48.far ?_ NB593_603.out _ | apply IsS48.set_0 | apply IsS48.set_2 | apply IsS48.set_3 | apply IsS48.set_4 | apply IsS48.set_5 | apply IsS48.set_6) | exact HI593.out)) k_ hn_))⟩)) (below_size (by repeat (first | (with_reducible first | exact HB.out | apply pw_below_drewN | refine below_set ?_ (IsS48.ge HI593.out) | refine below_set ?_ GE603.out) | exact HB.out)))); have n1_ := Aside0.mk (IsS48.below (by repeat (first | (with_reducible first | exact HI593.out | apply IsS48.alloc | apply IsS48.drewN | apply IsS48.drew | refine IsS48.far ?_ NB593_603.out _ | apply IsS48.set_0 | apply IsS48.set_2 | apply IsS48.set_3 | apply IsS48.set_4 | apply IsS48.set_5 | apply IsS48.set_6) | exact HI593.out)) hb); have n2_ := Aside0.mk (blk_below (g := gb603) (by exact BK603.out) hb); have n3_ := Aside0.mk (below_step (by repeat (first | (with_reducible first | exact HB.out | apply pw_below_drewN | refine below_set ?_ (IsS48.ge HI593.out) | refine below_set ?_ GE603.out) | exact HB.out)) hb); clear HI593 BK603 HB; have HO606 := n0_; have HI593 := n1_; have BK603 := n2_; have HB := n3_; clear n0_ n1_ n2_ n3_; (try clear hb); (try clear ho0)) | ((with_reducible refine gate_dst (N := 6) rfl ?_); refine box_event ?hg (N := 6) ?hd (cs := #[.slice none 0 0, .int .i64 0, .int .i64 0, .int .i64 0, .int .i64 0]) (t := 68) ?hr ?_; (case hd => rfl); (case hg => rfl); (case hr => first | (go_simp; done) | (go_simp; rfl)); intro gb613 hg w28 hbox hb; have n0_ := Aside0.mk (Kd.V_below (Kd.V_elderB (by (with_reducible repeat apply Kd.V_drewN); exact HO606.out) gb613 (Nat.le_of_eq hg.symm)) hb); have n1_ := Aside0.mk (IsS48.below (by repeat (first | (with_reducible first | exact HI593.out | apply IsS48.alloc | apply IsS48.drewN | apply IsS48.drew | refine IsS48.far ?_ NB593_603.out _ | apply IsS48.set_0 | apply IsS48.set_2 | apply IsS48.set_3 | apply IsS48.set_4 | apply IsS48.set_5 | apply IsS48.set_6) | exact HI593.out)) hb); have n2_ := Aside0.mk (blk_below (g := gb603) (by exact BK603.out) hb); have n3_ := Aside0.mk (below_step (by repeat (first | (with_reducible first | exact HB.out | apply pw_below_drewN | refine below_set ?_ (IsS48.ge HI593.out) | refine below_set ?_ GE603.out) | exact HB.out)) hb); have n4_ := Aside0.mk (hbox); have n5_ := Aside0.mk ((by rw [hg]; exact (below_size (by repeat (first | (with_reducible first | exact HB.out | apply pw_below_drewN | refine below_set ?_ (IsS48.ge HI593.out) | refine below_set ?_ GE603.out) | exact HB.out))) : w.heap.size ≤ gb613)); have n6_ := n5_; have n7_ := Aside0.mk ((by rw [hg]; exact Nat.ne_of_lt (blk_lt (g := gb603) (o := .cells #[.int .i64 t594, .int .i64 t595] 60 (0, 0)) (by (with_reducible repeat refine blk_drewN ?_ _); exact BK603.out)) : gb603 ≠ gb613)); have n8_ := Aside0.mk ((by rw [hg]; exact Nat.ne_of_gt (blk_lt (g := gb603) (o := .cells #[.int .i64 t594, .int .i64 t595] 60 (0, 0)) (by (with_reducible repeat refine blk_drewN ?_ _); exact BK603.out)) : gb613 ≠ gb603)); have n9_ := Aside0.mk ((by rw [hg]; exact Nat.ne_of_lt (IsS48.lt (show IsS48 w _ g593 t596 t597 t598 t599 t600 t601 t602 from by repeat (first | (with_reducible first | exact HI593.out | apply IsS48.alloc | apply IsS48.drewN | apply IsS48.drew | refine IsS48.far ?_ NB593_603.out _ | apply IsS48.set_0 | apply IsS48.set_2 | apply IsS48.set_3 | apply IsS48.set_4 | apply IsS48.set_5 | apply IsS48.set_6) | exact HI593.out))) : g593 ≠ gb613)); have n10_ := Aside0.mk ((by rw [hg]; exact Nat.ne_of_gt (IsS48.lt (show IsS48 w _ g593 t596 t597 t598 t599 t600 t601 t602 from by repeat (first | (with_reducible first | exact HI593.out | apply IsS48.alloc | apply IsS48.drewN | apply IsS48.drew | refine IsS48.far ?_ NB593_603.out _ | apply IsS48.set_0 | apply IsS48.set_2 | apply IsS48.set_3 | apply IsS48.set_4 | apply IsS48.set_5 | apply IsS48.set_6) | exact HI593.out))) : gb613 ≠ g593)); clear HO606 HI593 BK603 HB; have HO606 := n0_; have HI593 := n1_; have BK603 := n2_; have HB := n3_; have BK613 := n4_; have GW613 := n5_; have GE613 := n6_; have NB603_613 := n7_; have NB613_603 := n8_; have NB593_613 := n9_; have NB613_593 := n10_; clear n0_ n1_ n2_ n3_ n4_ n5_ n6_ n7_ n8_ n9_ n10_; clear hb hbox hg) | ((with_reducible refine gate_dst (N := 7) rfl ?_); refine box_event ?hg (N := 7) ?hd (cs := #[.int .i64 0, .int .i64 0]) (t := 60) ?hr ?_; (case hd => rfl); (case hg => rfl); (case hr => first | (go_simp; done) | (go_simp; rfl)); intro gb614 hg w29 hbox hb; have n0_ := Aside0.mk (Kd.V_below (Kd.V_elderB (by (with_reducible repeat apply Kd.V_drewN); exact HO606.out) gb614 (Nat.le_of_eq hg.symm)) hb); have n1_ := Aside0.mk (IsS48.below (by repeat (first | (with_reducible first | exact HI593.out | apply IsS48.alloc | apply IsS48.drewN | apply IsS48.drew | refine IsS48.far ?_ NB593_603.out _ | refine IsS48.far ?_ NB593_613.out _ | apply IsS48.set_0 | apply IsS48.set_2 | apply IsS48.set_3 | apply IsS48.set_4 | apply IsS48.set_5 | apply IsS48.set_6) | exact HI593.out)) hb); have n2_ := Aside0.mk (blk_below (g := gb603) (by exact BK603.out) hb); have n3_ := Aside0.mk (blk_below (g := gb613) (by exact BK613.out) hb); have n4_ := Aside0.mk (below_step (by repeat (first | (with_reducible first | exact HB.out | apply pw_below_drewN | refine below_set ?_ (IsS48.ge HI593.out) | refine below_set ?_ GE603.out | refine below_set ?_ GE613.out) | exact HB.out)) hb); have n5_ := Aside0.mk (hbox); have n6_ := Aside0.mk ((by rw [hg]; exact (below_size (by repeat (first | (with_reducible first | exact HB.out | apply pw_below_drewN | refine below_set ?_ (IsS48.ge HI593.out) | refine below_set ?_ GE603.out | refine below_set ?_ GE613.out) | exact HB.out))) : w.heap.size ≤ gb614)); have n7_ := n6_; have n8_ := Aside0.mk ((by rw [hg]; exact Nat.ne_of_lt (blk_lt (g := gb603) (o := .cells #[.int .i64 t594, .int .i64 t595] 60 (0, 0)) (by (with_reducible repeat refine blk_drewN ?_ _); exact BK603.out)) : gb603 ≠ gb614)); have n9_ := Aside0.mk ((by rw [hg]; exact Nat.ne_of_gt (blk_lt (g := gb603) (o := .cells #[.int .i64 t594, .int .i64 t595] 60 (0, 0)) (by (with_reducible repeat refine blk_drewN ?_ _); exact BK603.out)) : gb614 ≠ gb603)); have n10_ := Aside0.mk ((by rw [hg]; exact Nat.ne_of_lt (blk_lt (g := gb613) (o := .cells #[.slice none 0 0, .int .i64 0, .int .i64 0, .int .i64 0, .int .i64 0] 68 (0, 0)) (by (with_reducible repeat refine blk_drewN ?_ _); exact BK613.out)) : gb613 ≠ gb614)); have n11_ := Aside0.mk ((by rw [hg]; exact Nat.ne_of_gt (blk_lt (g := gb613) (o := .cells #[.slice none 0 0, .int .i64 0, .int .i64 0, .int .i64 0, .int .i64 0] 68 (0, 0)) (by (with_reducible repeat refine blk_drewN ?_ _); exact BK613.out)) : gb614 ≠ gb613)); have n12_ := Aside0.mk ((by rw [hg]; exact Nat.ne_of_lt (IsS48.lt (show IsS48 w _ g593 t596 t597 t598 t599 t600 t601 t602 from by repeat (first | (with_reducible first | exact HI593.out | apply IsS48.alloc | apply IsS48.drewN | apply IsS48.drew | refine IsS48.far ?_ NB593_603.out _ | refine IsS48.far ?_ NB593_613.out _ | apply IsS48.set_0 | apply IsS48.set_2 | apply IsS48.set_3 | apply IsS48.set_4 | apply IsS48.set_5 | apply IsS48.set_6) | exact HI593.out))) : g593 ≠ gb614)); have n13_ := Aside0.mk ((by rw [hg]; exact Nat.ne_of_gt (IsS48.lt (show IsS48 w _ g593 t596 t597 t598 t599 t600 t601 t602 from by repeat (first | (with_reducible first | exact HI593.out | apply IsS48.alloc | apply IsS48.drewN | apply IsS48.drew | refine IsS48.far ?_ NB593_603.out _ | refine IsS48.far ?_ NB593_613.out _ | apply IsS48.set_0 | apply IsS48.set_2 | apply IsS48.set_3 | apply IsS48.set_4 | apply IsS48.set_5 | apply IsS48.set_6) | exact HI593.out))) : gb614 ≠ g593)); clear HO606 HI593 BK603 BK613 HB; have HO606 := n0_; have HI593 := n1_; have BK603 := n2_; have BK613 := n3_; have HB := n4_; have BK614 := n5_; have GW614 := n6_; have GE614 := n7_; have NB603_614 := n8_; have NB614_603 := n9_; have NB613_614 := n10_; have NB614_613 := n11_; have NB593_614 := n12_; have NB614_593 := n13_; clear n0_ n1_ n2_ n3_ n4_ n5_ n6_ n7_ n8_ n9_ n10_ n11_ n12_ n13_; clear hb hbox hg; obtain ⟨Ao30, co30, eo30⟩ := Kd.V_slice HO606.out; subst eo30; have hnb31 := NB613_603.out; have hnc31 := NB603_613.out; have hnb32 := NB613_614.out; have hnc32 := NB614_613.out; have hnb33 := NB613_593.out; have hnc33 := NB593_613.out; have hcz34_0 : w29.cell? ⟨gb613, 0, none⟩ = some (.slice none 0 0) := (blk_cell BK613.out 0).trans rfl; have hcz34_1 : w29.cell? ⟨gb613, 1, none⟩ = some (.int .i64 0) := (blk_cell BK613.out 1).trans rfl; have hcz34_2 : w29.cell? ⟨gb613, 2, none⟩ = some (.int .i64 0) := (blk_cell BK613.out 2).trans rfl; have hcz34_3 : w29.cell? ⟨gb613, 3, none⟩ = some (.int .i64 0) := (blk_cell BK613.out 3).trans rfl; have hcz34_4 : w29.cell? ⟨gb613, 4, none⟩ = some (.int .i64 0) := (blk_cell BK613.out 4).trans rfl; have hfz34_0 := blk_frozen BK613.out 0; have hfz34_1 := blk_frozen BK613.out 1; have hfz34_2 := blk_frozen BK613.out 2; have hfz34_3 := blk_frozen BK613.out 3; have hfz34_4 := blk_frozen BK613.out 4; have hnb35 := NB614_603.out; have hnc35 := NB603_614.out; have hnb36 := NB614_593.out; have hnc36 := NB593_614.out; have hcz37_0 : w29.cell? ⟨gb614, 0, none⟩ = some (.int .i64 0) := (blk_cell BK614.out 0).trans rfl; have hcz37_1 : w29.cell? ⟨gb614, 1, none⟩ = some (.int .i64 0) := (blk_cell BK614.out 1).trans rfl; have hfz37_0 := blk_frozen BK614.out 0; have hfz37_1 := blk_frozen BK614.out 1) | ((with_reducible refine gate_callee (f := 21) rfl ?_); refine goesL_ (some 40) rfl rfl Try.func21 (by kernel_rfl) rfl #[.pointer (some ⟨g593, 0, none⟩)] rfl (by (try simp only [List.map_toArray, List.map_cons, List.map_nil]); first | done | rfl | (simp only [List.length_drop, List.length_take]; rfl)) ?_; (with_reducible refine (cursor_Cursor_Fault.calls g593 t596 t597 t598 t599 t600 t601 t602 t615 t616 t617 t618 t619 t620 t621 t622 t623 t624 w _ ?side1 ?side2 A13.out).mono ?_); (case side1 => repeat (first | (with_reducible first | exact HI593.out | apply IsS48.alloc | apply IsS48.drewN | apply IsS48.drew | refine IsS48.far ?_ NB593_603.out _ | refine IsS48.far ?_ NB593_613.out _ | refine IsS48.far ?_ NB593_614.out _ | apply IsS48.set_0 | apply IsS48.set_2 | apply IsS48.set_3 | apply IsS48.set_4 | apply IsS48.set_5 | apply IsS48.set_6) | exact HI593.out)); (case side2 => repeat (first | (with_reducible first | exact HB.out | apply pw_below_drewN | refine below_set ?_ (IsS48.ge HI593.out) | refine below_set ?_ GE603.out | refine below_set ?_ GE613.out | refine below_set ?_ GE614.out) | exact HB.out)); rintro e w38 ⟨rfl, hi, hb, hk⟩; refine ⟨_, rfl, ?_⟩; have n0_ := Aside0.mk (KeepBut.blk hk (g' := gb603) (o := .cells #[.int .i64 t594, .int .i64 t595] 60 (0, 0)) (by (with_reducible repeat refine blk_drewN ?_ _); refine blk_far ?_ NB603_614.out _; (with_reducible repeat refine blk_drewN ?_ _); refine blk_far ?_ NB603_614.out _; (with_reducible repeat refine blk_drewN ?_ _); refine blk_far ?_ NB603_613.out _; (with_reducible repeat refine blk_drewN ?_ _); refine blk_far ?_ NB603_613.out _; (with_reducible repeat refine blk_drewN ?_ _); refine blk_far ?_ NB603_613.out _; (with_reducible repeat refine blk_drewN ?_ _); refine blk_far ?_ NB603_613.out _; (with_reducible repeat refine blk_drewN ?_ _); refine blk_far ?_ NB603_613.out _; (with_reducible repeat refine blk_drewN ?_ _); exact BK603.out) NB603_593.out (by simp)); have n1_ := Aside0.mk (Kd.V_mono (Kd.V_keep (Kd.V_mono (ok := fun k_ => (((k_ ≠ gb603 ∧ k_ ≠ g593) ∧ k_ ≠ gb613) ∧ k_ ≠ gb614)) (by (with_reducible repeat apply Kd.V_drewN); exact (Kd.V_mono (Kd.V_mono (Kd.V_far (p := ⟨gb614, 1, none⟩) (Kd.V_far (p := ⟨gb614, 0, none⟩) (Kd.V_far (p := ⟨gb613, 4, none⟩) (Kd.V_far (p := ⟨gb613, 3, none⟩) (Kd.V_far (p := ⟨gb613, 2, none⟩) (Kd.V_far (p := ⟨gb613, 1, none⟩) (Kd.V_far (p := ⟨gb613, 0, none⟩) (Kd.V_mono (Kd.V_mono HO606.out (fun k_ hk => (⟨hk, hk.1.2⟩ : _ ∧ k_ ≠ gb613))) (fun k_ hk => (⟨hk, hk.1.2⟩ : _ ∧ k_ ≠ gb614))) (fun _ hk => hk.1.2) (.slice Ao30 t604.length co30)) (fun _ hk => hk.1.2) (.int .i64 t607)) (fun _ hk => hk.1.2) (.int .i64 t608)) (fun _ hk => hk.1.2) (.int .i64 t609)) (fun _ hk => hk.1.2) (.int .i64 t610)) (fun _ hk => hk.2) (.int .i64 t611)) (fun _ hk => hk.2) (.int .i64 t612)) (fun _ h_ => h_.1)) (fun _ h_ => h_.1))) (fun k_ hk_ => (⟨hk_, hk_.1.1.2⟩ : _ ∧ k_ ≠ g593))) hk (fun _ h => h.2)) (fun _ h => h.1)); have n2_ := Aside0.mk (KeepBut.blk hk (g' := gb613) (o := .cells #[.slice Ao30 t604.length co30, .int .i64 t607, .int .i64 t608, .int .i64 t609, .int .i64 t610] 68 (0, 0)) (by (with_reducible repeat refine blk_drewN ?_ _); refine blk_far ?_ NB613_614.out _; (with_reducible repeat refine blk_drewN ?_ _); refine blk_far ?_ NB613_614.out _; (with_reducible repeat refine blk_drewN ?_ _); refine blk_put (cs := #[.slice Ao30 t604.length co30, .int .i64 t607, .int .i64 t608, .int .i64 t609, .int .i64 0]) ?_ 4 _ rfl; (with_reducible repeat refine blk_drewN ?_ _); refine blk_put (cs := #[.slice Ao30 t604.length co30, .int .i64 t607, .int .i64 t608, .int .i64 0, .int .i64 0]) ?_ 3 _ rfl; (with_reducible repeat refine blk_drewN ?_ _); refine blk_put (cs := #[.slice Ao30 t604.length co30, .int .i64 t607, .int .i64 0, .int .i64 0, .int .i64 0]) ?_ 2 _ rfl; (with_reducible repeat refine blk_drewN ?_ _); refine blk_put (cs := #[.slice Ao30 t604.length co30, .int .i64 0, .int .i64 0, .int .i64 0, .int .i64 0]) ?_ 1 _ rfl; (with_reducible repeat refine blk_drewN ?_ _); refine blk_put (cs := #[.slice none 0 0, .int .i64 0, .int .i64 0, .int .i64 0, .int .i64 0]) ?_ 0 _ rfl; (with_reducible repeat refine blk_drewN ?_ _); exact BK613.out) NB613_593.out (by simp)); have n3_ := Aside0.mk (KeepBut.blk hk (g' := gb614) (o := .cells #[.int .i64 t611, .int .i64 t612] 60 (0, 0)) (by (with_reducible repeat refine blk_drewN ?_ _); refine blk_put (cs := #[.int .i64 t611, .int .i64 0]) ?_ 1 _ rfl; (with_reducible repeat refine blk_drewN ?_ _); refine blk_put (cs := #[.int .i64 0, .int .i64 0]) ?_ 0 _ rfl; (with_reducible repeat refine blk_drewN ?_ _); refine blk_far ?_ NB614_613.out _; (with_reducible repeat refine blk_drewN ?_ _); refine blk_far ?_ NB614_613.out _; (with_reducible repeat refine blk_drewN ?_ _); refine blk_far ?_ NB614_613.out _; (with_reducible repeat refine blk_drewN ?_ _); refine blk_far ?_ NB614_613.out _; (with_reducible repeat refine blk_drewN ?_ _); refine blk_far ?_ NB614_613.out _; (with_reducible repeat refine blk_drewN ?_ _); exact BK614.out) NB614_593.out (by simp)); have n4_ := Aside0.mk (hb); have n5_ := Aside0.mk (hi); clear BK603 HO606 BK613 BK614 HB HI593; have BK603 := n0_; have HO606 := n1_; have BK613 := n2_; have BK614 := n3_; have HB := n4_; have HI593 := n5_; clear n0_ n1_ n2_ n3_ n4_ n5_; (try clear hb)) | ((with_reducible refine gate_dst (N := 8) rfl ?_); refine box_event ?hg (N := 8) ?hd (cs := #[.int .i64 0, .int .i64 0]) (t := 25) ?hr ?_; (case hd => rfl); (case hg => rfl); (case hr => first | (go_simp; done) | (go_simp; rfl)); intro gb625 hg w39 hbox hb; have n0_ := Aside0.mk (Kd.V_below (Kd.V_elderB (by (with_reducible repeat apply Kd.V_drewN); exact HO606.out) gb625 (Nat.le_of_eq hg.symm)) hb); have n1_ := Aside0.mk (IsS48.below (by repeat (first | (with_reducible first | exact HI593.out | apply IsS48.alloc | apply IsS48.drewN | apply IsS48.drew | refine IsS48.far ?_ NB593_603.out _ | refine IsS48.far ?_ NB593_613.out _ | refine IsS48.far ?_ NB593_614.out _ | apply IsS48.set_0 | apply IsS48.set_2 | apply IsS48.set_3 | apply IsS48.set_4 | apply IsS48.set_5 | apply IsS48.set_6) | exact HI593.out)) hb); have n2_ := Aside0.mk (blk_below (g := gb603) (by exact BK603.out) hb); have n3_ := Aside0.mk (blk_below (g := gb613) (by exact BK613.out) hb); have n4_ := Aside0.mk (blk_below (g := gb614) (by exact BK614.out) hb); have n5_ := Aside0.mk (below_step (by repeat (first | (with_reducible first | exact HB.out | apply pw_below_drewN | refine below_set ?_ (IsS48.ge HI593.out) | refine below_set ?_ GE603.out | refine below_set ?_ GE613.out | refine below_set ?_ GE614.out) | exact HB.out)) hb); have n6_ := Aside0.mk (hbox); have n7_ := Aside0.mk ((by rw [hg]; exact (below_size (by repeat (first | (with_reducible first | exact HB.out | apply pw_below_drewN | refine below_set ?_ (IsS48.ge HI593.out) | refine below_set ?_ GE603.out | refine below_set ?_ GE613.out | refine below_set ?_ GE614.out) | exact HB.out))) : w.heap.size ≤ gb625)); have n8_ := n7_; have n9_ := Aside0.mk ((by rw [hg]; exact Nat.ne_of_lt (blk_lt (g := gb603) (o := .cells #[.int .i64 t594, .int .i64 t595] 60 (0, 0)) (by (with_reducible repeat refine blk_drewN ?_ _); exact BK603.out)) : gb603 ≠ gb625)); have n10_ := Aside0.mk ((by rw [hg]; exact Nat.ne_of_gt (blk_lt (g := gb603) (o := .cells #[.int .i64 t594, .int .i64 t595] 60 (0, 0)) (by (with_reducible repeat refine blk_drewN ?_ _); exact BK603.out)) : gb625 ≠ gb603)); have n11_ := Aside0.mk ((by rw [hg]; exact Nat.ne_of_lt (blk_lt (g := gb613) (o := .cells #[.slice Ao30 t604.length co30, .int .i64 t607, .int .i64 t608, .int .i64 t609, .int .i64 t610] 68 (0, 0)) (by (with_reducible repeat refine blk_drewN ?_ _); exact BK613.out)) : gb613 ≠ gb625)); have n12_ := Aside0.mk ((by rw [hg]; exact Nat.ne_of_gt (blk_lt (g := gb613) (o := .cells #[.slice Ao30 t604.length co30, .int .i64 t607, .int .i64 t608, .int .i64 t609, .int .i64 t610] 68 (0, 0)) (by (with_reducible repeat refine blk_drewN ?_ _); exact BK613.out)) : gb625 ≠ gb613)); have n13_ := Aside0.mk ((by rw [hg]; exact Nat.ne_of_lt (blk_lt (g := gb614) (o := .cells #[.int .i64 t611, .int .i64 t612] 60 (0, 0)) (by (with_reducible repeat refine blk_drewN ?_ _); exact BK614.out)) : gb614 ≠ gb625)); have n14_ := Aside0.mk ((by rw [hg]; exact Nat.ne_of_gt (blk_lt (g := gb614) (o := .cells #[.int .i64 t611, .int .i64 t612] 60 (0, 0)) (by (with_reducible repeat refine blk_drewN ?_ _); exact BK614.out)) : gb625 ≠ gb614)); have n15_ := Aside0.mk ((by rw [hg]; exact Nat.ne_of_lt (IsS48.lt (show IsS48 w _ g593 t618 t619 t620 t621 t622 t623 t624 from by repeat (first | (with_reducible first | exact HI593.out | apply IsS48.alloc | apply IsS48.drewN | apply IsS48.drew | refine IsS48.far ?_ NB593_603.out _ | refine IsS48.far ?_ NB593_613.out _ | refine IsS48.far ?_ NB593_614.out _ | apply IsS48.set_0 | apply IsS48.set_2 | apply IsS48.set_3 | apply IsS48.set_4 | apply IsS48.set_5 | apply IsS48.set_6) | exact HI593.out))) : g593 ≠ gb625)); have n16_ := Aside0.mk ((by rw [hg]; exact Nat.ne_of_gt (IsS48.lt (show IsS48 w _ g593 t618 t619 t620 t621 t622 t623 t624 from by repeat (first | (with_reducible first | exact HI593.out | apply IsS48.alloc | apply IsS48.drewN | apply IsS48.drew | refine IsS48.far ?_ NB593_603.out _ | refine IsS48.far ?_ NB593_613.out _ | refine IsS48.far ?_ NB593_614.out _ | apply IsS48.set_0 | apply IsS48.set_2 | apply IsS48.set_3 | apply IsS48.set_4 | apply IsS48.set_5 | apply IsS48.set_6) | exact HI593.out))) : gb625 ≠ g593)); clear HO606 HI593 BK603 BK613 BK614 HB; have HO606 := n0_; have HI593 := n1_; have BK603 := n2_; have BK613 := n3_; have BK614 := n4_; have HB := n5_; have BK625 := n6_; have GW625 := n7_; have GE625 := n8_; have NB603_625 := n9_; have NB625_603 := n10_; have NB613_625 := n11_; have NB625_613 := n12_; have NB614_625 := n13_; have NB625_614 := n14_; have NB593_625 := n15_; have NB625_593 := n16_; clear n0_ n1_ n2_ n3_ n4_ n5_ n6_ n7_ n8_ n9_ n10_ n11_ n12_ n13_ n14_ n15_ n16_; clear hb hbox hg; have hnb40 := NB625_603.out; have hnc40 := NB603_625.out; have hnb41 := NB625_613.out; have hnc41 := NB613_625.out; have hnb42 := NB625_614.out; have hnc42 := NB614_625.out; have hnb43 := NB625_593.out; have hnc43 := NB593_625.out; have hcz44_0 : w39.cell? ⟨gb625, 0, none⟩ = some (.int .i64 0) := (blk_cell BK625.out 0).trans rfl; have hcz44_1 : w39.cell? ⟨gb625, 1, none⟩ = some (.int .i64 0) := (blk_cell BK625.out 1).trans rfl; have hfz44_0 := blk_frozen BK625.out 0; have hfz44_1 := blk_frozen BK625.out 1))
         have n0_ : Aside0 (Kd.V k34 34 ((w39.setCell ⟨gb625, 0, none⟩ (.int .i64 t615)).setCell ⟨gb625, 1, none⟩ (.int .i64 t616)) w.heap.size (fun k_ => k_ ≠ gb603 ∧ k_ ≠ g593 ∧ k_ ≠ gb613 ∧ k_ ≠ gb614 ∧ k_ ≠ gb625) (.slice Ao30 t604.length co30) t604) := ⟨by (with_reducible repeat apply Kd.V_drewN); exact Kd.V_mono (Kd.V_far (p := ⟨gb625, 1, none⟩) (Kd.V_far (p := ⟨gb625, 0, none⟩) (Kd.V_mono HO606.out (fun k_ hk => (⟨hk, hk.2⟩ : _ ∧ k_ ≠ gb625))) (fun _ hk => hk.2) (.int .i64 t615)) (fun _ hk => hk.2) (.int .i64 t616)) (fun _ hk => ⟨hk.1.1.1.1.1, ⟨hk.1.1.1.1.2, ⟨hk.1.1.1.2, ⟨hk.1.1.2, hk.1.2⟩⟩⟩⟩)⟩
         have n1_ : Aside0 (((w39.setCell ⟨gb625, 0, none⟩ (.int .i64 t615)).setCell ⟨gb625, 1, none⟩ (.int .i64 t616)).heap[gb603]? = some (.cells #[.int .i64 t594, .int .i64 t595] 60 (0, 0))) := ⟨by (with_reducible repeat refine blk_drewN ?_ _); refine blk_far ?_ NB603_625.out _; (with_reducible repeat refine blk_drewN ?_ _); refine blk_far ?_ NB603_625.out _; (with_reducible repeat refine blk_drewN ?_ _); exact BK603.out⟩
         have n2_ : Aside0 (((w39.setCell ⟨gb625, 0, none⟩ (.int .i64 t615)).setCell ⟨gb625, 1, none⟩ (.int .i64 t616)).heap[gb613]? = some (.cells #[.slice Ao30 t604.length co30, .int .i64 t607, .int .i64 t608, .int .i64 t609, .int .i64 t610] 68 (0, 0))) := ⟨by (with_reducible repeat refine blk_drewN ?_ _); refine blk_far ?_ NB613_625.out _; (with_reducible repeat refine blk_drewN ?_ _); refine blk_far ?_ NB613_625.out _; (with_reducible repeat refine blk_drewN ?_ _); exact BK613.out⟩
         have n3_ : Aside0 (((w39.setCell ⟨gb625, 0, none⟩ (.int .i64 t615)).setCell ⟨gb625, 1, none⟩ (.int .i64 t616)).heap[gb614]? = some (.cells #[.int .i64 t611, .int .i64 t612] 60 (0, 0))) := ⟨by (with_reducible repeat refine blk_drewN ?_ _); refine blk_far ?_ NB614_625.out _; (with_reducible repeat refine blk_drewN ?_ _); refine blk_far ?_ NB614_625.out _; (with_reducible repeat refine blk_drewN ?_ _); exact BK614.out⟩
         have n4_ : Aside0 (((w39.setCell ⟨gb625, 0, none⟩ (.int .i64 t615)).setCell ⟨gb625, 1, none⟩ (.int .i64 t616)).heap[gb625]? = some (.cells #[.int .i64 t615, .int .i64 t616] 25 (0, 0))) := ⟨by (with_reducible repeat refine blk_drewN ?_ _); refine blk_put (cs := #[.int .i64 t615, .int .i64 0]) ?_ 1 _ rfl; (with_reducible repeat refine blk_drewN ?_ _); refine blk_put (cs := #[.int .i64 0, .int .i64 0]) ?_ 0 _ rfl; (with_reducible repeat refine blk_drewN ?_ _); exact BK625.out⟩
         have n5_ : Aside0 (IsS48 w ((w39.setCell ⟨gb625, 0, none⟩ (.int .i64 t615)).setCell ⟨gb625, 1, none⟩ (.int .i64 t616)) g593 t618 t619 t620 t621 t622 t623 t624) := ⟨by repeat (first | (with_reducible first | exact HI593.out | apply IsS48.alloc | apply IsS48.drewN | apply IsS48.drew | refine IsS48.far ?_ NB593_603.out _ | refine IsS48.far ?_ NB593_613.out _ | refine IsS48.far ?_ NB593_614.out _ | refine IsS48.far ?_ NB593_625.out _ | apply IsS48.set_0 | apply IsS48.set_2 | apply IsS48.set_3 | apply IsS48.set_4 | apply IsS48.set_5 | apply IsS48.set_6) | exact HI593.out)⟩
         have n6_ : Aside0 (Below w.heap.size w ((w39.setCell ⟨gb625, 0, none⟩ (.int .i64 t615)).setCell ⟨gb625, 1, none⟩ (.int .i64 t616))) := ⟨by repeat (first | (with_reducible first | exact HB.out | apply pw_below_drewN | refine below_set ?_ (IsS48.ge HI593.out) | refine below_set ?_ GE603.out | refine below_set ?_ GE613.out | refine below_set ?_ GE614.out | refine below_set ?_ GE625.out) | exact HB.out)⟩
         (try clear HO606)
         (try clear BK603)
         (try clear BK613)
         (try clear BK614)
         (try clear BK625)
         (try clear HI593)
         (try clear HB)
         generalize ((w39.setCell ⟨gb625, 0, none⟩ (.int .i64 t615)).setCell ⟨gb625, 1, none⟩ (.int .i64 t616)) = w45 at n0_ n1_ n2_ n3_ n4_ n5_ n6_ ⊢
         have HO606 := n0_
         have BK603 := n1_
         have BK613 := n2_
         have BK614 := n3_
         have BK625 := n4_
         have HI593 := n5_
         have HB := n6_
         clear n0_ n1_ n2_ n3_ n4_ n5_ n6_
         have n0_ := Aside0.mk (Kd.V_drew HO606.out)
         have n1_ := Aside0.mk (blk_drew BK603.out)
         have n2_ := Aside0.mk (blk_drew BK613.out)
         have n3_ := Aside0.mk (blk_drew BK614.out)
         have n4_ := Aside0.mk (blk_drew BK625.out)
         have n5_ := Aside0.mk (IsS48.drew HI593.out)
         have n6_ := Aside0.mk (below_drew1 HB.out)
         clear HO606
         clear BK603
         clear BK613
         clear BK614
         clear BK625
         clear HI593
         clear HB
         have HO606 := n0_
         have BK603 := n1_
         have BK613 := n2_
         have BK614 := n3_
         have BK625 := n4_
         have HI593 := n5_
         have HB := n6_
         clear n0_ n1_ n2_ n3_ n4_ n5_ n6_
         refine start_ (n := 26) (S := fun w' => w'.cell? ⟨gb603, 0, none⟩ = some (.int .i64 t594) ∧ w'.cell? ⟨gb603, 1, none⟩ = some (.int .i64 t595) ∧ w'.cell? ⟨gb614, 0, none⟩ = some (.int .i64 t611) ∧ w'.cell? ⟨gb614, 1, none⟩ = some (.int .i64 t612) ∧ w'.cell? ⟨gb625, 0, none⟩ = some (.int .i64 t615) ∧ w'.cell? ⟨gb625, 1, none⟩ = some (.int .i64 t616) ∧ w'.cell? ⟨gb613, 0, none⟩ = some (.slice Ao30 t604.length co30) ∧ w'.cell? ⟨gb613, 1, none⟩ = some (.int .i64 t607) ∧ w'.cell? ⟨gb613, 2, none⟩ = some (.int .i64 t608) ∧ w'.cell? ⟨gb613, 3, none⟩ = some (.int .i64 t609) ∧ w'.cell? ⟨gb613, 4, none⟩ = some (.int .i64 t610)) (ds := []) #[false, false, false, false, false, false, false, false, false, false, false, false, false, false, false, false, false, false, false, false, false, false, false, false, false, false] (by kernel_rfl) rfl rfl ⟨(blk_cell BK603.out 0).trans rfl, (blk_cell BK603.out 1).trans rfl, (blk_cell BK614.out 0).trans rfl, (blk_cell BK614.out 1).trans rfl, (blk_cell BK625.out 0).trans rfl, (blk_cell BK625.out 1).trans rfl, (blk_cell BK613.out 0).trans rfl, (blk_cell BK613.out 1).trans rfl, (blk_cell BK613.out 2).trans rfl, (blk_cell BK613.out 3).trans rfl, (blk_cell BK613.out 4).trans rfl⟩ (fun hHeld => ?_); refine with_tabW regimenlaw14_LengthReads.tab12 regimenlaw14_LengthReads.bits12 (fun HT_ HW_ => ?_)
         generalize w45.drew = w46 at HO606 BK603 BK613 BK614 BK625 HI593 HB hHeld ⊢
         refine take_ (i := 0) (N := some 43) (v := ?_) (a' := ?_) #[true, false, false, false, false, false, false, false, false, false, false, false, false, false, false, false, false, false, false, false, false, false, false, false, false, false] rfl rfl (take_ofW HT_.out HW_.out (by kernel_rfl)) (fun _ _ _ h => h) (Or.inl ⟨by rfl, ?_⟩) hHeld ?_ ?_
         rotate_left
         ·rintro w' ⟨s0, s1, s2, s3, s4, s5, s6, s7, s8, s9, s10⟩
          go_simp
          with_reducible rfl
         rotate_left
         ·simp only [Act.put, List.setIfInBounds_toArray, List.set_cons_zero, List.set_cons_succ, i64_w, i32_w]
          rfl
         refine take_ (i := 1) (N := some 44) (v := ?_) (a' := ?_) #[true, true, false, false, false, false, false, false, false, false, false, false, false, false, false, false, false, false, false, false, false, false, false, false, false, false] rfl rfl (take_ofW HT_.out HW_.out (by kernel_rfl)) (fun _ _ _ h => h) (Or.inl ⟨by rfl, ?_⟩) hHeld ?_ ?_
         rotate_left
         ·rintro w' ⟨s0, s1, s2, s3, s4, s5, s6, s7, s8, s9, s10⟩
          go_simp
          with_reducible rfl
         rotate_left
         ·simp only [Act.put, List.setIfInBounds_toArray, List.set_cons_zero, List.set_cons_succ, i64_w, i32_w]
          rfl
         refine pure_ (i := 2) (N := some 45) (v := ?_) (a' := ?_) #[true, true, true, false, false, false, false, false, false, false, false, false, false, false, false, false, false, false, false, false, false, false, false, false, false, false] rfl rfl (any_of HT_.out (by kernel_rfl)) (fun _ _ _ h => h) (Or.inl ⟨by rfl, ?_⟩) ?_ ?_
         rotate_left
         ·intro w'
          go_simp
          with_reducible rfl
         rotate_left
         ·simp only [Act.put, List.setIfInBounds_toArray, List.set_cons_zero, List.set_cons_succ, i64_w, i32_w]
          rfl
         refine pure_ (i := 3) (N := some 46) (v := ?_) (a' := ?_) #[true, true, true, true, false, false, false, false, false, false, false, false, false, false, false, false, false, false, false, false, false, false, false, false, false, false] rfl rfl (any_of HT_.out (by kernel_rfl)) (fun _ _ _ h => h) (Or.inl ⟨by rfl, ?_⟩) ?_ ?_
         rotate_left
         ·intro w'
          go_simp
          with_reducible rfl
         rotate_left
         ·simp only [Act.put, List.setIfInBounds_toArray, List.set_cons_zero, List.set_cons_succ, i64_w, i32_w]
          rfl
         refine pure_ (i := 5) (N := some 48) (v := ?_) (a' := ?_) #[true, true, true, true, false, true, false, false, false, false, false, false, false, false, false, false, false, false, false, false, false, false, false, false, false, false] rfl rfl (any_of HT_.out (by kernel_rfl)) (fun _ _ _ h => h) (Or.inl ⟨by rfl, ?_⟩) ?_ ?_
         rotate_left
         ·intro w'
          go_simp
          with_reducible rfl
         rotate_left
         ·simp only [Act.put, List.setIfInBounds_toArray, List.set_cons_zero, List.set_cons_succ, i64_w, i32_w]
          rfl
         refine take_ (i := 4) (N := some 47) (v := ?_) (a' := ?_) #[true, true, true, true, true, true, false, false, false, false, false, false, false, false, false, false, false, false, false, false, false, false, false, false, false, false] rfl rfl (take_ofW HT_.out HW_.out (by kernel_rfl)) (fun _ _ _ h => h) (Or.inl ⟨by rfl, ?_⟩) hHeld ?_ ?_
         rotate_left
         ·rintro w' ⟨s0, s1, s2, s3, s4, s5, s6, s7, s8, s9, s10⟩
          go_simp
          with_reducible rfl
         rotate_left
         ·simp only [Act.put, List.setIfInBounds_toArray, List.set_cons_zero, List.set_cons_succ, i64_w, i32_w]
          rfl
         refine take_ (i := 6) (N := some 49) (v := ?_) (a' := ?_) #[true, true, true, true, true, true, true, false, false, false, false, false, false, false, false, false, false, false, false, false, false, false, false, false, false, false] rfl rfl (take_ofW HT_.out HW_.out (by kernel_rfl)) (fun _ _ _ h => h) (Or.inl ⟨by rfl, ?_⟩) hHeld ?_ ?_
         rotate_left
         ·rintro w' ⟨s0, s1, s2, s3, s4, s5, s6, s7, s8, s9, s10⟩
          go_simp
          with_reducible rfl
         rotate_left
         ·simp only [Act.put, List.setIfInBounds_toArray, List.set_cons_zero, List.set_cons_succ, i64_w, i32_w]
          rfl
         refine pure_ (i := 7) (N := some 50) (v := ?_) (a' := ?_) #[true, true, true, true, true, true, true, true, false, false, false, false, false, false, false, false, false, false, false, false, false, false, false, false, false, false] rfl rfl (any_of HT_.out (by kernel_rfl)) (fun _ _ _ h => h) (Or.inl ⟨by rfl, ?_⟩) ?_ ?_
         rotate_left
         ·intro w'
          go_simp
          with_reducible rfl
         rotate_left
         ·simp only [Act.put, List.setIfInBounds_toArray, List.set_cons_zero, List.set_cons_succ, i64_w, i32_w]
          rfl
         refine pure_ (i := 8) (N := some 51) (v := ?_) (a' := ?_) #[true, true, true, true, true, true, true, true, true, false, false, false, false, false, false, false, false, false, false, false, false, false, false, false, false, false] rfl rfl (any_of HT_.out (by kernel_rfl)) (fun _ _ _ h => h) (Or.inl ⟨by rfl, ?_⟩) ?_ ?_
         rotate_left
         ·intro w'
          go_simp
          with_reducible rfl
         rotate_left
         ·simp only [Act.put, List.setIfInBounds_toArray, List.set_cons_zero, List.set_cons_succ, i64_w, i32_w]
          rfl
         refine pure_ (i := 9) (N := some 52) (v := ?_) (a' := ?_) #[true, true, true, true, true, true, true, true, true, true, false, false, false, false, false, false, false, false, false, false, false, false, false, false, false, false] rfl rfl (any_of HT_.out (by kernel_rfl)) (fun _ _ _ h => h) (Or.inl ⟨by rfl, ?_⟩) ?_ ?_
         rotate_left
         ·intro w'
          go_simp
          with_reducible rfl
         rotate_left
         ·simp only [Act.put, List.setIfInBounds_toArray, List.set_cons_zero, List.set_cons_succ, i64_w, i32_w]
          rfl
         refine pure_ (i := 10) (N := some 53) (v := ?_) (a' := ?_) #[true, true, true, true, true, true, true, true, true, true, true, false, false, false, false, false, false, false, false, false, false, false, false, false, false, false] rfl rfl (any_of HT_.out (by kernel_rfl)) (fun _ _ _ h => h) (Or.inl ⟨by rfl, ?_⟩) ?_ ?_
         rotate_left
         ·intro w'
          go_simp
          with_reducible rfl
         rotate_left
         ·simp only [Act.put, List.setIfInBounds_toArray, List.set_cons_zero, List.set_cons_succ, i64_w, i32_w]
          rfl
         refine pure_ (i := 11) (N := some 54) (v := ?_) (a' := ?_) #[true, true, true, true, true, true, true, true, true, true, true, true, false, false, false, false, false, false, false, false, false, false, false, false, false, false] rfl rfl (any_of HT_.out (by kernel_rfl)) (fun _ _ _ h => h) (Or.inl ⟨by rfl, ?_⟩) ?_ ?_
         rotate_left
         ·intro w'
          go_simp
          with_reducible rfl
         rotate_left
         ·simp only [Act.put, List.setIfInBounds_toArray, List.set_cons_zero, List.set_cons_succ, i64_w, i32_w]
          rfl
         refine take_ (i := 12) (N := some 55) (v := ?_) (a' := ?_) #[true, true, true, true, true, true, true, true, true, true, true, true, true, false, false, false, false, false, false, false, false, false, false, false, false, false] rfl rfl (take_ofW HT_.out HW_.out (by kernel_rfl)) (fun _ _ _ h => h) (Or.inl ⟨by rfl, ?_⟩) hHeld ?_ ?_
         rotate_left
         ·rintro w' ⟨s0, s1, s2, s3, s4, s5, s6, s7, s8, s9, s10⟩
          go_simp
          with_reducible rfl
         rotate_left
         ·simp only [Act.put, List.setIfInBounds_toArray, List.set_cons_zero, List.set_cons_succ, i64_w, i32_w]
          rfl
         refine pure_ (i := 13) (N := some 56) (v := ?_) (a' := ?_) #[true, true, true, true, true, true, true, true, true, true, true, true, true, true, false, false, false, false, false, false, false, false, false, false, false, false] rfl rfl (any_of HT_.out (by kernel_rfl)) (fun _ _ _ h => h) (Or.inl ⟨by rfl, ?_⟩) ?_ ?_
         rotate_left
         ·intro w'
          go_simp
          with_reducible rfl
         rotate_left
         ·simp only [Act.put, List.setIfInBounds_toArray, List.set_cons_zero, List.set_cons_succ, i64_w, i32_w]
          rfl
         refine pure_ (i := 14) (N := some 57) (v := ?_) (a' := ?_) #[true, true, true, true, true, true, true, true, true, true, true, true, true, true, true, false, false, false, false, false, false, false, false, false, false, false] rfl rfl (any_of HT_.out (by kernel_rfl)) (fun _ _ _ h => h) (Or.inl ⟨by rfl, ?_⟩) ?_ ?_
         rotate_left
         ·intro w'
          go_simp
          with_reducible rfl
         rotate_left
         ·simp only [Act.put, List.setIfInBounds_toArray, List.set_cons_zero, List.set_cons_succ, i64_w, i32_w]
          rfl
         refine pure_ (i := 15) (N := some 58) (v := ?_) (a' := ?_) #[true, true, true, true, true, true, true, true, true, true, true, true, true, true, true, true, false, false, false, false, false, false, false, false, false, false] rfl rfl (any_of HT_.out (by kernel_rfl)) (fun _ _ _ h => h) (Or.inl ⟨by rfl, ?_⟩) ?_ ?_
         rotate_left
         ·intro w'
          go_simp
          with_reducible rfl
         rotate_left
         ·simp only [Act.put, List.setIfInBounds_toArray, List.set_cons_zero, List.set_cons_succ, i64_w, i32_w]
          rfl
         refine pure_ (i := 16) (N := some 59) (v := ?_) (a' := ?_) #[true, true, true, true, true, true, true, true, true, true, true, true, true, true, true, true, true, false, false, false, false, false, false, false, false, false] rfl rfl (any_of HT_.out (by kernel_rfl)) (fun _ _ _ h => h) (Or.inl ⟨by rfl, ?_⟩) ?_ ?_
         rotate_left
         ·intro w'
          go_simp
          with_reducible rfl
         rotate_left
         ·simp only [Act.put, List.setIfInBounds_toArray, List.set_cons_zero, List.set_cons_succ, i64_w, i32_w]
          rfl
         refine take_ (i := 18) (N := some 61) (v := ?_) (a' := ?_) #[true, true, true, true, true, true, true, true, true, true, true, true, true, true, true, true, true, false, true, false, false, false, false, false, false, false] rfl rfl (take_ofW HT_.out HW_.out (by kernel_rfl)) (fun _ _ _ h => h) (Or.inl ⟨by rfl, ?_⟩) hHeld ?_ ?_
         rotate_left
         ·rintro w' ⟨s0, s1, s2, s3, s4, s5, s6, s7, s8, s9, s10⟩
          go_simp
          with_reducible rfl
         rotate_left
         ·simp only [Act.put, List.setIfInBounds_toArray, List.set_cons_zero, List.set_cons_succ, i64_w, i32_w]
          rfl
         refine one_ (i := 17) (N := some 60) #[true, true, true, true, true, true, true, true, true, true, true, true, true, true, true, true, true, true, true, false, false, false, false, false, false, false] rfl rfl (one_of HT_.out (by kernel_rfl)) (by decide) (fun K hK => ?_)
         refine goes_ Try.func22 (by kernel_rfl) rfl #[.pointer (some ⟨g593, 0, none⟩)] (by rfl) rfl rfl (by (try simp only [List.map_toArray, List.map_cons, List.map_nil]); first | done | rfl | (simp only [List.length_drop, List.length_take]; rfl)) ?_
         with_reducible refine (cursor_Cursor_Peek.calls g593 t618 t619 t620 t621 t622 t623 t624 t626 t627 t628 t629 t630 t631 t632 t633 t634 t635 t636 w _ ?side1 ?side2 A17.out).mono ?_
         (case side1 => repeat (first | (with_reducible first | exact HI593.out | apply IsS48.alloc | apply IsS48.drewN | apply IsS48.drew | refine IsS48.far ?_ NB593_603.out _ | refine IsS48.far ?_ NB593_613.out _ | refine IsS48.far ?_ NB593_614.out _ | refine IsS48.far ?_ NB593_625.out _ | apply IsS48.set_0 | apply IsS48.set_2 | apply IsS48.set_3 | apply IsS48.set_4 | apply IsS48.set_5 | apply IsS48.set_6) | exact HI593.out))
         (case side2 => repeat (first | (with_reducible first | exact HB.out | apply pw_below_drewN | refine below_set ?_ (IsS48.ge HI593.out) | refine below_set ?_ GE603.out | refine below_set ?_ GE613.out | refine below_set ?_ GE614.out | refine below_set ?_ GE625.out) | exact HB.out))
         rintro e w47 ⟨rfl, hi, hb, hk⟩
         refine ⟨_, rfl, ?_⟩
         have n0_ := Aside0.mk (KeepBut.blk hk (g' := gb603) (o := .cells #[.int .i64 t594, .int .i64 t595] 60 (0, 0)) (by (with_reducible repeat refine blk_drewN ?_ _); exact BK603.out) NB603_593.out (by simp))
         have n1_ := Aside0.mk (Kd.V_mono (Kd.V_keep (Kd.V_mono (ok := fun k_ => (k_ ≠ gb603 ∧ (k_ ≠ g593 ∧ (k_ ≠ gb613 ∧ (k_ ≠ gb614 ∧ k_ ≠ gb625))))) (by (with_reducible repeat apply Kd.V_drewN); exact HO606.out) (fun k_ hk_ => (⟨hk_, hk_.2.1⟩ : _ ∧ k_ ≠ g593))) hk (fun _ h => h.2)) (fun _ h => h.1))
         have n2_ := Aside0.mk (KeepBut.blk hk (g' := gb613) (o := .cells #[.slice Ao30 t604.length co30, .int .i64 t607, .int .i64 t608, .int .i64 t609, .int .i64 t610] 68 (0, 0)) (by (with_reducible repeat refine blk_drewN ?_ _); exact BK613.out) NB613_593.out (by simp))
         have n3_ := Aside0.mk (KeepBut.blk hk (g' := gb614) (o := .cells #[.int .i64 t611, .int .i64 t612] 60 (0, 0)) (by (with_reducible repeat refine blk_drewN ?_ _); exact BK614.out) NB614_593.out (by simp))
         have n4_ := Aside0.mk (KeepBut.blk hk (g' := gb625) (o := .cells #[.int .i64 t615, .int .i64 t616] 25 (0, 0)) (by (with_reducible repeat refine blk_drewN ?_ _); exact BK625.out) NB625_593.out (by simp))
         have n5_ := Aside0.mk (hb)
         have n6_ := Aside0.mk (hi)
         clear BK603
         clear HO606
         clear BK613
         clear BK614
         clear BK625
         clear HB
         clear HI593
         have BK603 := n0_
         have HO606 := n1_
         have BK613 := n2_
         have BK614 := n3_
         have BK625 := n4_
         have HB := n5_
         have HI593 := n6_
         clear n0_ n1_ n2_ n3_ n4_ n5_ n6_
         (try clear hb)
         (try clear hb2)
         (try clear hk)
         (try clear hi)
         refine hK.out _ _ ⟨(blk_cell BK603.out 0).trans rfl, (blk_cell BK603.out 1).trans rfl, (blk_cell BK614.out 0).trans rfl, (blk_cell BK614.out 1).trans rfl, (blk_cell BK625.out 0).trans rfl, (blk_cell BK625.out 1).trans rfl, (blk_cell BK613.out 0).trans rfl, (blk_cell BK613.out 1).trans rfl, (blk_cell BK613.out 2).trans rfl, (blk_cell BK613.out 3).trans rfl, (blk_cell BK613.out 4).trans rfl⟩ (fun hHeld => ?_)
         clear hK K
         refine norm_ (a' := ?_) ?_ ?_
         rotate_left
         ·show Act.put _ (some 60) _ = _
          simp only [Act.put, List.setIfInBounds_toArray, List.set_cons_zero, List.set_cons_succ, i64_w, i32_w]
          rfl
         refine one_ (i := 19) (N := some 62) #[true, true, true, true, true, true, true, true, true, true, true, true, true, true, true, true, true, true, true, true, false, false, false, false, false, false] rfl rfl (one_of HT_.out (by kernel_rfl)) (by decide) (fun K hK => ?_)
         refine goes_ Try.func36 (by kernel_rfl) rfl #[.agg #[.slice Ao30 t604.length co30, .int .i64 t607, .int .i64 t608, .int .i64 t609, .int .i64 t610]] (by rfl) rfl rfl (by (try simp only [List.map_toArray, List.map_cons, List.map_nil]); first | done | rfl | (simp only [List.length_drop, List.length_take]; rfl)) ?_
         with_reducible refine (regimenref13_Peek.calls _ _ t604 t607 t608 t609 t610 t637 t638 t639 t640 _ ?side1 ?side2 A18.out).mono ?_
         (case side1 => repeat (first | exact (Kd.V_reads' HO606.out).2.2 | (with_reducible refine Kd.C_alloc ?_ _) | (with_reducible refine Kd.C_drewN ?_ _) | (with_reducible refine Kd.C_drew ?_)))
         (case side2 => exact (Kd.V_reads' HO606.out).2.1)
         rintro e w48 ⟨rfl, hb⟩
         refine ⟨_, rfl, ?_⟩
         have n0_ := Aside0.mk (Kd.V_below (by (with_reducible repeat apply Kd.V_drewN); exact HO606.out) hb)
         have n1_ := Aside0.mk (IsS48.below (by repeat (first | (with_reducible first | exact HI593.out | apply IsS48.alloc | apply IsS48.drewN | apply IsS48.drew | refine IsS48.far ?_ NB593_603.out _ | refine IsS48.far ?_ NB593_613.out _ | refine IsS48.far ?_ NB593_614.out _ | refine IsS48.far ?_ NB593_625.out _ | apply IsS48.set_0 | apply IsS48.set_2 | apply IsS48.set_3 | apply IsS48.set_4 | apply IsS48.set_5 | apply IsS48.set_6) | exact HI593.out)) hb)
         have n2_ := Aside0.mk (blk_below (g := gb603) (by exact BK603.out) hb)
         have n3_ := Aside0.mk (blk_below (g := gb613) (by exact BK613.out) hb)
         have n4_ := Aside0.mk (blk_below (g := gb614) (by exact BK614.out) hb)
         have n5_ := Aside0.mk (blk_below (g := gb625) (by exact BK625.out) hb)
         have n6_ := Aside0.mk (below_step (by repeat (first | (with_reducible first | exact HB.out | apply pw_below_drewN | refine below_set ?_ (IsS48.ge HI593.out) | refine below_set ?_ GE603.out | refine below_set ?_ GE613.out | refine below_set ?_ GE614.out | refine below_set ?_ GE625.out) | exact HB.out)) hb)
         clear HO606
         clear HI593
         clear BK603
         clear BK613
         clear BK614
         clear BK625
         clear HB
         have HO606 := n0_
         have HI593 := n1_
         have BK603 := n2_
         have BK613 := n3_
         have BK614 := n4_
         have BK625 := n5_
         have HB := n6_
         clear n0_ n1_ n2_ n3_ n4_ n5_ n6_
         (try clear hb)
         (try clear hb2)
         (try clear hk)
         (try clear hi)
         refine hK.out _ _ ⟨(blk_cell BK603.out 0).trans rfl, (blk_cell BK603.out 1).trans rfl, (blk_cell BK614.out 0).trans rfl, (blk_cell BK614.out 1).trans rfl, (blk_cell BK625.out 0).trans rfl, (blk_cell BK625.out 1).trans rfl, (blk_cell BK613.out 0).trans rfl, (blk_cell BK613.out 1).trans rfl, (blk_cell BK613.out 2).trans rfl, (blk_cell BK613.out 3).trans rfl, (blk_cell BK613.out 4).trans rfl⟩ (fun hHeld => ?_)
         clear hK K
         refine norm_ (a' := ?_) ?_ ?_
         rotate_left
         ·show Act.put _ (some 62) _ = _
          simp only [Act.put, List.setIfInBounds_toArray, List.set_cons_zero, List.set_cons_succ, i64_w, i32_w]
          rfl
         refine pure_ (i := 20) (N := some 63) (v := ?_) (a' := ?_) #[true, true, true, true, true, true, true, true, true, true, true, true, true, true, true, true, true, true, true, true, true, false, false, false, false, false] rfl rfl (any_of HT_.out (by kernel_rfl)) (fun _ _ _ h => h) (Or.inl ⟨by rfl, ?_⟩) ?_ ?_
         rotate_left
         ·intro w'
          go_simp
          with_reducible rfl
         rotate_left
         ·simp only [Act.put, List.setIfInBounds_toArray, List.set_cons_zero, List.set_cons_succ, i64_w, i32_w]
          rfl
         refine pure_ (i := 21) (N := some 64) (v := ?_) (a' := ?_) #[true, true, true, true, true, true, true, true, true, true, true, true, true, true, true, true, true, true, true, true, true, true, false, false, false, false] rfl rfl (any_of HT_.out (by kernel_rfl)) (fun _ _ _ h => h) (Or.inl ⟨by rfl, ?_⟩) ?_ ?_
         rotate_left
         ·intro w'
          go_simp
          with_reducible rfl
         rotate_left
         ·simp only [Act.put, List.setIfInBounds_toArray, List.set_cons_zero, List.set_cons_succ, i64_w, i32_w]
          rfl
         refine pure_ (i := 22) (N := some 65) (v := ?_) (a' := ?_) #[true, true, true, true, true, true, true, true, true, true, true, true, true, true, true, true, true, true, true, true, true, true, true, false, false, false] rfl rfl (any_of HT_.out (by kernel_rfl)) (fun _ _ _ h => h) (Or.inl ⟨by rfl, ?_⟩) ?_ ?_
         rotate_left
         ·intro w'
          go_simp
          with_reducible rfl
         rotate_left
         ·simp only [Act.put, List.setIfInBounds_toArray, List.set_cons_zero, List.set_cons_succ, i64_w, i32_w]
          rfl
         refine one_ (i := 23) (N := some 66) #[true, true, true, true, true, true, true, true, true, true, true, true, true, true, true, true, true, true, true, true, true, true, true, true, false, false] rfl rfl (one_of HT_.out (by kernel_rfl)) (by decide) (fun K hK => ?_)
         refine goes_ Try.func31 (by kernel_rfl) rfl #[] (by rfl) rfl rfl (by (try simp only [List.map_toArray, List.map_cons, List.map_nil]); first | done | rfl | (simp only [List.length_drop, List.length_take]; rfl)) ?_
         with_reducible refine (regimenlaw14_awake.calls k1  t641 _ A20.out).mono ?_
         rintro e w49 ⟨rfl, hb⟩
         refine ⟨_, rfl, ?_⟩
         have n0_ := Aside0.mk (Kd.V_below (by (with_reducible repeat apply Kd.V_drewN); exact HO606.out) hb)
         have n1_ := Aside0.mk (IsS48.below (by repeat (first | (with_reducible first | exact HI593.out | apply IsS48.alloc | apply IsS48.drewN | apply IsS48.drew | refine IsS48.far ?_ NB593_603.out _ | refine IsS48.far ?_ NB593_613.out _ | refine IsS48.far ?_ NB593_614.out _ | refine IsS48.far ?_ NB593_625.out _ | apply IsS48.set_0 | apply IsS48.set_2 | apply IsS48.set_3 | apply IsS48.set_4 | apply IsS48.set_5 | apply IsS48.set_6) | exact HI593.out)) hb)
         have n2_ := Aside0.mk (blk_below (g := gb603) (by exact BK603.out) hb)
         have n3_ := Aside0.mk (blk_below (g := gb613) (by exact BK613.out) hb)
         have n4_ := Aside0.mk (blk_below (g := gb614) (by exact BK614.out) hb)
         have n5_ := Aside0.mk (blk_below (g := gb625) (by exact BK625.out) hb)
         have n6_ := Aside0.mk (below_step (by repeat (first | (with_reducible first | exact HB.out | apply pw_below_drewN | refine below_set ?_ (IsS48.ge HI593.out) | refine below_set ?_ GE603.out | refine below_set ?_ GE613.out | refine below_set ?_ GE614.out | refine below_set ?_ GE625.out) | exact HB.out)) hb)
         clear HO606
         clear HI593
         clear BK603
         clear BK613
         clear BK614
         clear BK625
         clear HB
         have HO606 := n0_
         have HI593 := n1_
         have BK603 := n2_
         have BK613 := n3_
         have BK614 := n4_
         have BK625 := n5_
         have HB := n6_
         clear n0_ n1_ n2_ n3_ n4_ n5_ n6_
         (try clear hb)
         (try clear hb2)
         (try clear hk)
         (try clear hi)
         refine hK.out _ _ ⟨(blk_cell BK603.out 0).trans rfl, (blk_cell BK603.out 1).trans rfl, (blk_cell BK614.out 0).trans rfl, (blk_cell BK614.out 1).trans rfl, (blk_cell BK625.out 0).trans rfl, (blk_cell BK625.out 1).trans rfl, (blk_cell BK613.out 0).trans rfl, (blk_cell BK613.out 1).trans rfl, (blk_cell BK613.out 2).trans rfl, (blk_cell BK613.out 3).trans rfl, (blk_cell BK613.out 4).trans rfl⟩ (fun hHeld => ?_)
         clear hK K
         refine norm_ (a' := ?_) ?_ ?_
         rotate_left
         ·show Act.put _ (some 66) _ = _
          simp only [Act.put, List.setIfInBounds_toArray, List.set_cons_zero, List.set_cons_succ, i64_w, i32_w]
          rfl
         refine pure_ (i := 24) (N := some 67) (v := ?_) (a' := ?_) #[true, true, true, true, true, true, true, true, true, true, true, true, true, true, true, true, true, true, true, true, true, true, true, true, true, false] rfl rfl (any_of HT_.out (by kernel_rfl)) (fun _ _ _ h => h) (Or.inl ⟨by rfl, ?_⟩) ?_ ?_
         rotate_left
         ·intro w'
          go_simp
          with_reducible rfl
         rotate_left
         ·simp only [Act.put, List.setIfInBounds_toArray, List.set_cons_zero, List.set_cons_succ, i64_w, i32_w]
          rfl
         refine pure_ (i := 25) (N := some 2) (v := ?_) (a' := ?_) #[true, true, true, true, true, true, true, true, true, true, true, true, true, true, true, true, true, true, true, true, true, true, true, true, true, true] rfl rfl (any_of HT_.out (by kernel_rfl)) (fun _ _ _ h => h) (Or.inl ⟨by rfl, ?_⟩) ?_ ?_
         rotate_left
         ·intro w'
          go_simp
          with_reducible rfl
         rotate_left
         ·simp only [Act.put, List.setIfInBounds_toArray, List.set_cons_zero, List.set_cons_succ, i64_w, i32_w]
          rfl
         refine done_ (done_of HT_.out (by kernel_rfl)) ?_
         try go_wp2
         go_ret
         exact ⟨by first | rfl | (simp [*] <;> rfl), by repeat (first | (with_reducible first | exact HB.out | apply pw_below_drewN | refine below_set ?_ (IsS48.ge HI593.out) | refine below_set ?_ GE603.out | refine below_set ?_ GE613.out | refine below_set ?_ GE614.out | refine below_set ?_ GE625.out) | exact HB.out)⟩
        ·rw [if_neg c19] at H
         have c19b0 : (t626 == t637 && (t627.toList == t638.toList && ((t628 == t639 && (t629 == t640))))) = false := by simpa using c19
         (try (have c19b1 : decide (t626 = t637 && (t627.toList == t638.toList && ((t628 == t639 && (t629 == t640))))) = false := by simpa using c19))
         (try (have c19b2 : (t626 == t637 && (t627.toList == t638.toList && ((t628 == t639 && (t629 == t640))))) = false := by simpa using c19))
         (try (have c19b3 : ¬ (t626 = t637 && (t627.toList == t638.toList && ((t628 == t639 && (t629 == t640))))) := by simpa using c19))
         clear c19
         (try (have c19_c14b0 := c14b0; simp only [c19b0, Bool.true_and, Bool.and_true, Bool.false_or, Bool.or_false, Bool.not_true, Bool.not_false] at c19_c14b0))
         (try (have c19_c15b0 := c15b0; simp only [c19b0, Bool.true_and, Bool.and_true, Bool.false_or, Bool.or_false, Bool.not_true, Bool.not_false] at c19_c15b0))
         exact absurd H (by simp)
       ·rw [if_neg c16] at H
        have c16b0 : (t617 == t610) = false := beq_eq_false_iff_ne.mpr c16
        have c16b1 : (t617 != t610) = true := bne_iff_ne.mpr c16
        (try (have c16_c14b0 := c14b0; simp only [c16b0, Bool.true_and, Bool.and_true, Bool.false_or, Bool.or_false, Bool.not_true, Bool.not_false] at c16_c14b0))
        (try (have c16_c15b0 := c15b0; simp only [c16b0, Bool.true_and, Bool.and_true, Bool.false_or, Bool.or_false, Bool.not_true, Bool.not_false] at c16_c15b0))
        exact absurd H (by simp)
      ·rw [if_neg c15] at H
       have c15b0 : (t615 == t608 && (t616 == t609)) = false := by simpa using c15
       (try (have c15b1 : decide (t615 = t608 && (t616 == t609)) = false := by simpa using c15))
       (try (have c15b2 : (t615 == t608 && (t616 == t609)) = false := by simpa using c15))
       (try (have c15b3 : ¬ (t615 = t608 && (t616 == t609)) := by simpa using c15))
       clear c15
       (try (have c15_c14b0 := c14b0; simp only [c15b0, Bool.true_and, Bool.and_true, Bool.false_or, Bool.or_false, Bool.not_true, Bool.not_false] at c15_c14b0))
       exact absurd H (by simp)
     ·rw [if_neg c14] at H
      have c14b0 : (t594 == t611 && (t595 == t612)) = false := by simpa using c14
      (try (have c14b1 : decide (t594 = t611 && (t595 == t612)) = false := by simpa using c14))
      (try (have c14b2 : (t594 == t611 && (t595 == t612)) = false := by simpa using c14))
      (try (have c14b3 : ¬ (t594 = t611 && (t595 == t612)) := by simpa using c14))
      clear c14
      exact absurd H (by simp)

/-- THE ONE PURE STATEMENT of regimenlaw14_LengthReads: yours. -/
def regimenlaw14_LengthReads.Pure : Prop := ∀ (l0 : List (S34)), (l0.length ≤ maxLen ∧ l0.length * 40 ≤ 140737488351232 ∧ ∀ x, x ∈ l0 → ((Lit.int .i64 x.f0).wf = true) ∧ ((x.f1.size ≤ 140737488351232) ∧ ((((Lit.int .i64 x.f2.f0).wf = true) ∧ ((Lit.int .i64 x.f2.f1).wf = true))))) → ∃ k, regimenlaw14_LengthReads.f k l0 = some true
theorem regimenlaw14_LengthReads.walk (P : regimenlaw14_LengthReads.Pure) (A0 : Option Addr) (c0 : Nat) (l0 : List (S34)) (w : World) (hr0 : Kd.C k34 w A0 l0.length l0) (hc0 : l0.length ≤ c0) (w0 : l0.length ≤ maxLen ∧ l0.length * 40 ≤ 140737488351232 ∧ ∀ x, x ∈ l0 → ((Lit.int .i64 x.f0).wf = true) ∧ ((x.f1.size ≤ 140737488351232) ∧ ((((Lit.int .i64 x.f2.f0).wf = true) ∧ ((Lit.int .i64 x.f2.f1).wf = true))))) :
  Calls Try.prog 9 #[.slice A0 l0.length c0] w fun e w' => e = .returned (.bool true) ∧ Below w.heap.size w w' := by
 obtain ⟨k, h⟩ := P l0 w0
 refine (regimenlaw14_LengthReads.calls k _ _ l0 true w hr0 hc0 h).mono ?_
 rintro e w' ⟨rfl, hd⟩
 exact ⟨rfl, hd⟩

end Go.Proofs.Ytnmmhfpekeeedaa.PR
