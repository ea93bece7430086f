/- Go functions of this seat as plain Lean functions, each with a proof that its call comes to just what that function says, wherever that function says anything: written by a program of this session. -/
import Derived.Test.YtnmmhfpekeeedaaPRx0
import Derived.Test.YtnmmhfpekeeedaaPRx3
import Derived.Test.YtnmmhfpekeeedaaPRx4
import Derived.Test.YtnmmhfpekeeedaaPRx8
import Derived.Test.YtnmmhfpekeeedaaPRx9
import Derived.Test.YtnmmhfpekeeedaaPRx10
namespace Go.Proofs.Ytnmmhfpekeeedaa.PR
open Go.RowKit Go.Proofs.YtnmmhfpekeeedaaW.PrintWords Go.Proofs.YtnmmhfpekeeedaaW.PrintLast Go.Proofs.YtnmmhfpekeeedaaW.PrintMore
attribute [local go_sem] max2_int min2_int max_two min_two max_three min_three max_four min_four   -- for this text's walks alone
set_option linter.unusedVariables false
set_option linter.unusedSimpArgs false

attribute [local go_sem] isSome_setCell
attribute [local go_sem high] eqA60
/-! ### length_unit: function 66 -/
theorem fld66_0 (a : Int) (b : ByteArray) (c d : Int) (w : World) : Sem.run Try.prog (Instr.field 34 (Value.agg #[Value.int IntKind.i64 a, Value.string b, Value.int IntKind.i64 c, Value.int IntKind.i64 d]) 0) w = .ok (.int .i64 a) w := by kernel_rfl
theorem fld66_1 (a : Int) (b : ByteArray) (c d : Int) (w : World) : Sem.run Try.prog (Instr.field 34 (Value.agg #[Value.int IntKind.i64 a, Value.string b, Value.int IntKind.i64 c, Value.int IntKind.i64 d]) 1) w = .ok (.string b) w := by kernel_rfl
theorem fld66_2 (a : Int) (b : ByteArray) (c d : Int) (w : World) : Sem.run Try.prog (Instr.field 34 (Value.agg #[Value.int IntKind.i64 a, Value.string b, Value.int IntKind.i64 c, Value.int IntKind.i64 d]) 2) w = .ok (.agg #[.int .i64 c, .int .i64 d]) w := by kernel_rfl
attribute [local go_sem] fld66_0 fld66_1 fld66_2
mutual
def length_unit.j0 : Nat → Bool → Bool → List (S34) → Int → Int → Int → Int → Int → Option (Int × Bool × (List (S34)) × Int × Int × Int × Int × Int)
 | 0, _, _, _, _, _, _, _, _ => none
 | k + 1, x19, x1000, x1001, x1002, x1003, x1004, x1005, x1006 => if x19 = true then ((cursor_Cursor_Fail.f x1000 x1001 x1002 x1003 x1004 x1005 x1006 3).bind fun bt360 => (length_unit.j1 k bt360.1 bt360.2.1 bt360.2.2.1 bt360.2.2.2.1 bt360.2.2.2.2.1 bt360.2.2.2.2.2.1 bt360.2.2.2.2.2.2)) else (length_unit.j1 k x1000 x1001 x1002 x1003 x1004 x1005 x1006)
def length_unit.j1 : Nat → Bool → List (S34) → Int → Int → Int → Int → Int → Option (Int × Bool × (List (S34)) × Int × Int × Int × Int × Int)
 | 0, _, _, _, _, _, _, _ => none
 | k + 1, x1000, x1001, x1002, x1003, x1004, x1005, x1006 => (cursor_Cursor_Take.f x1000 x1001 x1002 x1003 x1004 x1005 x1006 1 (⟨#[115, 116, 101, 112, 115]⟩ : ByteArray)).bind fun bt367 => (if bt367.1 = true then (some (0, bt367.2.1, bt367.2.2.1, bt367.2.2.2.1, bt367.2.2.2.2.1, bt367.2.2.2.2.2.1, bt367.2.2.2.2.2.2.1, bt367.2.2.2.2.2.2.2)) else ((cursor_Cursor_Take.f bt367.2.1 bt367.2.2.1 bt367.2.2.2.1 bt367.2.2.2.2.1 bt367.2.2.2.2.2.1 bt367.2.2.2.2.2.2.1 bt367.2.2.2.2.2.2.2 1 (⟨#[101, 112, 111, 99, 104, 115]⟩ : ByteArray)).bind fun bt375 => (if bt375.1 = true then (some (1, bt375.2.1, bt375.2.2.1, bt375.2.2.2.1, bt375.2.2.2.2.1, bt375.2.2.2.2.2.1, bt375.2.2.2.2.2.2.1, bt375.2.2.2.2.2.2.2)) else ((cursor_Cursor_Want.f bt375.2.1 bt375.2.2.1 bt375.2.2.2.1 bt375.2.2.2.2.1 bt375.2.2.2.2.2.1 bt375.2.2.2.2.2.2.1 bt375.2.2.2.2.2.2.2 4 (⟨#[37]⟩ : ByteArray)).bind fun bt383 => (some (2, bt383.1, bt383.2.1, bt383.2.2.1, bt383.2.2.2.1, bt383.2.2.2.2.1, bt383.2.2.2.2.2.1, bt383.2.2.2.2.2.2))))))
end
def length_unit.f (k : Nat) (s0_0 : Bool) (s0_1 : List (S34)) (s0_2 : Int) (s0_3 : Int) (s0_4 : Int) (s0_5 : Int) (s0_6 : Int) (a1 : Int) : Option (Int × Bool × (List (S34)) × Int × Int × Int × Int × Int) := (cursor_Cursor_Peek.f s0_0 s0_1 s0_2 s0_3 s0_4 s0_5 s0_6).bind fun bt348 => (if bt348.1 = 4 then (if bt348.2.1.toList = ([37] : List UInt8) then (length_unit.j0 k (decide (a1 > 100)) bt348.2.2.2.2.1 bt348.2.2.2.2.2.1 bt348.2.2.2.2.2.2.1 bt348.2.2.2.2.2.2.2.1 bt348.2.2.2.2.2.2.2.2.1 bt348.2.2.2.2.2.2.2.2.2.1 bt348.2.2.2.2.2.2.2.2.2.2) else (length_unit.j0 k false bt348.2.2.2.2.1 bt348.2.2.2.2.2.1 bt348.2.2.2.2.2.2.1 bt348.2.2.2.2.2.2.2.1 bt348.2.2.2.2.2.2.2.2.1 bt348.2.2.2.2.2.2.2.2.2.1 bt348.2.2.2.2.2.2.2.2.2.2)) else (length_unit.j0 k false bt348.2.2.2.2.1 bt348.2.2.2.2.2.1 bt348.2.2.2.2.2.2.1 bt348.2.2.2.2.2.2.2.1 bt348.2.2.2.2.2.2.2.2.1 bt348.2.2.2.2.2.2.2.2.2.1 bt348.2.2.2.2.2.2.2.2.2.2))
theorem length_unit.mono_l : ∀ k, (∀ y0 y1 y2 y3 y4 y5 y6 y7, LeO (length_unit.j0 k y0 y1 y2 y3 y4 y5 y6 y7) (length_unit.j0 (k + 1) y0 y1 y2 y3 y4 y5 y6 y7)) ∧ (∀ y0 y1 y2 y3 y4 y5 y6, LeO (length_unit.j1 k y0 y1 y2 y3 y4 y5 y6) (length_unit.j1 (k + 1) y0 y1 y2 y3 y4 y5 y6))
 | 0 => ⟨fun _ _ _ _ _ _ _ _ r h => by simp [length_unit.j0] at h, fun _ _ _ _ _ _ _ r h => by simp [length_unit.j1] at h⟩
 | k + 1 => by
  obtain ⟨ih0, ih1⟩ := length_unit.mono_l k
  refine ⟨?_, ?_⟩
  ·intro y0 y1 y2 y3 y4 y5 y6 y7
   unfold length_unit.j0
   repeat' first
   | (with_reducible exact ih0 _ _ _ _ _ _ _ _)
   | (with_reducible exact ih1 _ _ _ _ _ _ _)
   | (with_reducible exact LeO.refl _)
   | (with_reducible exact LeO.none _)
   | (with_reducible refine LeO.ite ?_ ?_)
   | (with_reducible refine LeO.bind ?_ (fun _ => ?_))
   | exact ih0 _ _ _ _ _ _ _ _
   | exact ih1 _ _ _ _ _ _ _
   | exact LeO.none _
   | refine LeO.ite ?_ ?_
   | refine LeO.bind ?_ (fun _ => ?_)
  ·intro y0 y1 y2 y3 y4 y5 y6
   unfold length_unit.j1
   repeat' first
   | (with_reducible exact ih0 _ _ _ _ _ _ _ _)
   | (with_reducible exact ih1 _ _ _ _ _ _ _)
   | (with_reducible exact LeO.refl _)
   | (with_reducible exact LeO.none _)
   | (with_reducible refine LeO.ite ?_ ?_)
   | (with_reducible refine LeO.bind ?_ (fun _ => ?_))
   | exact ih0 _ _ _ _ _ _ _ _
   | exact ih1 _ _ _ _ _ _ _
   | exact LeO.none _
   | refine LeO.ite ?_ ?_
   | refine LeO.bind ?_ (fun _ => ?_)
theorem length_unit.mono : ∀ a0 a1 a2 a3 a4 a5 a6 a7 k, LeO (length_unit.f k a0 a1 a2 a3 a4 a5 a6 a7) (length_unit.f (k + 1) a0 a1 a2 a3 a4 a5 a6 a7) := by
 intro a0 a1 a2 a3 a4 a5 a6 a7 k
 obtain ⟨ih0, ih1⟩ := length_unit.mono_l k
 unfold length_unit.f
 repeat' first
   | (with_reducible exact ih0 _ _ _ _ _ _ _ _)
   | (with_reducible exact ih1 _ _ _ _ _ _ _)
   | (with_reducible exact LeO.refl _)
   | (with_reducible exact LeO.none _)
   | (with_reducible refine LeO.ite ?_ ?_)
   | (with_reducible refine LeO.bind ?_ (fun _ => ?_))
   | exact ih0 _ _ _ _ _ _ _ _
   | exact ih1 _ _ _ _ _ _ _
   | exact LeO.none _
   | refine LeO.ite ?_ ?_
   | refine LeO.bind ?_ (fun _ => ?_)
set_option maxHeartbeats 8000000 in
set_option maxRecDepth 100000 in
theorem length_unit.calls (k : Nat) (g : Nat) (s0_0 : Bool) (s0_1 : List (S34)) (s0_2 : Int) (s0_3 : Int) (s0_4 : Int) (s0_5 : Int) (s0_6 : Int) (a1 : Int) (r1 : Int) (r2 : Bool) (r3 : List (S34)) (r4 : Int) (r5 : Int) (r6 : Int) (r7 : Int) (r8 : Int) (w0 w : World) (hI : IsS48 w0 w g s0_0 s0_1 s0_2 s0_3 s0_4 s0_5 s0_6) (hB : Below w0.heap.size w0 w) (h : length_unit.f k s0_0 s0_1 s0_2 s0_3 s0_4 s0_5 s0_6 a1 = some (r1, r2, r3, r4, r5, r6, r7, r8)) :
  Calls Try.prog 66 #[.pointer (some ⟨g, 0, none⟩), .int .i64 a1] w fun e w' => e = .returned (.int .i64 r1) ∧ IsS48 w0 w' g r2 r3 r4 r5 r6 r7 r8 ∧ Below w0.heap.size w0 w' ∧ KeepBut w w' g none := by
 have hu34 := Try.underlying34
 have HI0 := Aside0.mk hI
 have HK := Aside0.mk (KeepBut.refl w g none)
 have HL := Aside0.mk hB.size
 clear hI
 have HW0 := Aside0.mk hB.size
 have HB := Aside0.mk hB
 clear hB
 have H : ((cursor_Cursor_Peek.f s0_0 s0_1 s0_2 s0_3 s0_4 s0_5 s0_6).bind fun bt348 => (if bt348.1 = 4 then (if bt348.2.1.toList = ([37] : List UInt8) then (length_unit.j0 k (decide (a1 > 100)) bt348.2.2.2.2.1 bt348.2.2.2.2.2.1 bt348.2.2.2.2.2.2.1 bt348.2.2.2.2.2.2.2.1 bt348.2.2.2.2.2.2.2.2.1 bt348.2.2.2.2.2.2.2.2.2.1 bt348.2.2.2.2.2.2.2.2.2.2) else (length_unit.j0 k false bt348.2.2.2.2.1 bt348.2.2.2.2.2.1 bt348.2.2.2.2.2.2.1 bt348.2.2.2.2.2.2.2.1 bt348.2.2.2.2.2.2.2.2.1 bt348.2.2.2.2.2.2.2.2.2.1 bt348.2.2.2.2.2.2.2.2.2.2)) else (length_unit.j0 k false bt348.2.2.2.2.1 bt348.2.2.2.2.2.1 bt348.2.2.2.2.2.2.1 bt348.2.2.2.2.2.2.2.1 bt348.2.2.2.2.2.2.2.2.1 bt348.2.2.2.2.2.2.2.2.2.1 bt348.2.2.2.2.2.2.2.2.2.2))) = some (r1, r2, r3, r4, r5, r6, r7, r8) := h
 clear h
 replace H := Option.bind_eq_some_iff.mp H
 obtain ⟨⟨t348, t349, t350, t351, t352, t353, t354, t355, t356, t357, t358⟩, A30, H⟩ := H
 replace H : (if t348 = 4 then (if t349.toList = ([37] : List UInt8) then (length_unit.j0 k (decide (a1 > 100)) t352 t353 t354 t355 t356 t357 t358) else (length_unit.j0 k false t352 t353 t354 t355 t356 t357 t358)) else (length_unit.j0 k false t352 t353 t354 t355 t356 t357 t358)) = some (r1, r2, r3, r4, r5, r6, r7, r8) := H
 have A3 := Aside0.mk A30
 clear A30
 have HC4 := Aside0.mk H
 clear H
 go_enter Try.func66, Try.ntmps66
 go_upto_region 2 with (first | ((with_reducible refine gate_callee (f := 22) rfl ?_); refine goesL_ (some 7) rfl rfl Try.func22 (by kernel_rfl) rfl #[.pointer (some ⟨g, 0, none⟩)] rfl (by (try simp only [List.map_toArray, List.map_cons, List.map_nil]); first | done | rfl | (simp only [List.length_drop, List.length_take]; rfl)) ?_; (with_reducible refine (cursor_Cursor_Peek.calls g s0_0 s0_1 s0_2 s0_3 s0_4 s0_5 s0_6 t348 t349 t350 t351 t352 t353 t354 t355 t356 t357 t358 w0 _ ?side1 ?side2 A3.out).mono ?_); (case side1 => repeat (first | (with_reducible first | exact HI0.out | apply IsS48.alloc | apply IsS48.drewN | apply IsS48.drew | apply IsS48.set_0 | apply IsS48.set_2 | apply IsS48.set_3 | apply IsS48.set_4 | apply IsS48.set_5 | apply IsS48.set_6) | exact HI0.out)); (case side2 => repeat (first | (with_reducible first | exact HB.out | apply pw_below_drewN | refine below_set ?_ (IsS48.ge HI0.out)) | exact HB.out)); rintro e w5 ⟨rfl, hi, hb, hk⟩; refine ⟨_, rfl, ?_⟩; have n0_ := Aside0.mk (KeepBut.trans (by repeat (first | (with_reducible first | exact HK.out | apply KeepBut.set_ | apply keep_drewN | apply keep_drew | apply keep_alloc) | exact HK.out)) hk (.inl rfl)); have n1_ := Aside0.mk (hb); have n2_ := Aside0.mk (hi); clear HK HB HI0; have HK := n0_; have HB := n1_; have HI0 := n2_; clear n0_ n1_ n2_; (try clear hb)) | ((with_reducible refine gate_dst (N := 5) rfl ?_); refine box_event ?hg (N := 5) ?hd (cs := #[.int .i64 0, .string (⟨#[]⟩ : ByteArray), .int .i64 0, .int .i64 0]) (t := 34) ?hr ?_; (case hd => rfl); (case hg => rfl); (case hr => first | (go_simp; done) | (go_simp; rfl)); intro gb359 hg w6 hbox hb; have n0_ := Aside0.mk (IsS48.below (by repeat (first | (with_reducible first | exact HI0.out | apply IsS48.alloc | apply IsS48.drewN | apply IsS48.drew | apply IsS48.set_0 | apply IsS48.set_2 | apply IsS48.set_3 | apply IsS48.set_4 | apply IsS48.set_5 | apply IsS48.set_6) | exact HI0.out)) hb); have n1_ := Aside0.mk (KeepBut.trans (by repeat (first | (with_reducible first | exact HK.out | apply KeepBut.set_ | apply keep_drewN | apply keep_drew | apply keep_alloc) | exact HK.out)) (KeepBut.of_below hb g none) (.inl rfl)); have n2_ := Aside0.mk (below_step (by repeat (first | (with_reducible first | exact HB.out | apply pw_below_drewN | refine below_set ?_ (IsS48.ge HI0.out)) | exact HB.out)) hb); have n3_ := Aside0.mk (hbox); have n4_ := Aside0.mk ((by rw [hg]; exact (keep_size (w := w) (g := g) (row := none) (by repeat (first | (with_reducible first | exact HK.out | apply KeepBut.set_ | apply keep_drewN | apply keep_drew | apply keep_alloc) | exact HK.out))) : w.heap.size ≤ gb359)); have n5_ := Aside0.mk ((Nat.le_trans HW0.out (by rw [hg]; exact (keep_size (w := w) (g := g) (row := none) (by repeat (first | (with_reducible first | exact HK.out | apply KeepBut.set_ | apply keep_drewN | apply keep_drew | apply keep_alloc) | exact HK.out))) : w.heap.size ≤ gb359) : w0.heap.size ≤ gb359)); have n6_ := Aside0.mk ((by rw [hg]; exact Nat.ne_of_lt (IsS48.lt (show IsS48 w0 _ g t352 t353 t354 t355 t356 t357 t358 from by repeat (first | (with_reducible first | exact HI0.out | apply IsS48.alloc | apply IsS48.drewN | apply IsS48.drew | apply IsS48.set_0 | apply IsS48.set_2 | apply IsS48.set_3 | apply IsS48.set_4 | apply IsS48.set_5 | apply IsS48.set_6) | exact HI0.out))) : g ≠ gb359)); have n7_ := Aside0.mk ((by rw [hg]; exact Nat.ne_of_gt (IsS48.lt (show IsS48 w0 _ g t352 t353 t354 t355 t356 t357 t358 from by repeat (first | (with_reducible first | exact HI0.out | apply IsS48.alloc | apply IsS48.drewN | apply IsS48.drew | apply IsS48.set_0 | apply IsS48.set_2 | apply IsS48.set_3 | apply IsS48.set_4 | apply IsS48.set_5 | apply IsS48.set_6) | exact HI0.out))) : gb359 ≠ g)); clear HI0 HK HB; have HI0 := n0_; have HK := n1_; have HB := n2_; have BK359 := n3_; have GW359 := n4_; have GE359 := n5_; have NB0_359 := n6_; have NB359_0 := n7_; clear n0_ n1_ n2_ n3_ n4_ n5_ n6_ n7_; clear hb hbox hg; have hnb7 := NB359_0.out; have hnc7 := NB0_359.out; have hcz8_0 : w6.cell? ⟨gb359, 0, none⟩ = some (.int .i64 0) := (blk_cell BK359.out 0).trans rfl; have hcz8_1 : w6.cell? ⟨gb359, 1, none⟩ = some (.string (⟨#[]⟩ : ByteArray)) := (blk_cell BK359.out 1).trans rfl; have hcz8_2 : w6.cell? ⟨gb359, 2, none⟩ = some (.int .i64 0) := (blk_cell BK359.out 2).trans rfl; have hcz8_3 : w6.cell? ⟨gb359, 3, none⟩ = some (.int .i64 0) := (blk_cell BK359.out 3).trans rfl; have hfz8_0 := blk_frozen BK359.out 0; have hfz8_1 := blk_frozen BK359.out 1; have hfz8_2 := blk_frozen BK359.out 2; have hfz8_3 := blk_frozen BK359.out 3))
 (try simp only [Act.put, List.setIfInBounds_toArray, List.set_cons_zero, List.set_cons_succ])
 go_cut [19] (fun v19 wc => ∃ (kq : Nat) (x19_3 : Bool), v19 = .bool x19_3 ∧ Aside0 (length_unit.j0 kq x19_3 t352 t353 t354 t355 t356 t357 t358 = some (r1, r2, r3, r4, r5, r6, r7, r8)) ∧ Aside0 (kq ≤ k) ∧ Aside0 (wc.heap[gb359]? = some (.cells #[.int .i64 t348, .string t349, .int .i64 t350, .int .i64 t351] 34 (0, 0))) ∧ Aside0 (IsS48 w0 wc g t352 t353 t354 t355 t356 t357 t358) ∧ Aside0 (KeepBut w wc g none) ∧ Aside0 (Below w0.heap.size w0 wc))
 case first =>
  have H := HC4.out
  clear HC4
  by_cases c9 : t348 = 4
  ·rw [if_pos c9] at H
   have c9b0 : (t348 == 4) = true := beq_iff_eq.mpr c9
   have c9b1 : (t348 != 4) = false := bne_eq_false_iff_eq.mpr c9
   clear c9
   (first | rw [c9b0] | rw [c9b1] | (simp only [i64_w, i32_w]; rw [c9b0]) | skip)
   by_cases c10 : t349.toList = ([37] : List UInt8)
   ·rw [if_pos c10] at H
    have c10b0 : (t349.toList == ([37] : List UInt8)) = true := beq_iff_eq.mpr c10
    have c10b1 : (t349.toList != ([37] : List UInt8)) = false := bne_eq_false_iff_eq.mpr c10
    clear c10
    have H' := Aside0.mk H
    clear H
    have hnb11 := NB359_0.out
    have hnc11 := NB0_359.out
    have hcz12_0 : w6.cell? ⟨gb359, 0, none⟩ = some (.int .i64 0) := (blk_cell BK359.out 0).trans rfl
    have hcz12_1 : w6.cell? ⟨gb359, 1, none⟩ = some (.string (⟨#[]⟩ : ByteArray)) := (blk_cell BK359.out 1).trans rfl
    have hcz12_2 : w6.cell? ⟨gb359, 2, none⟩ = some (.int .i64 0) := (blk_cell BK359.out 2).trans rfl
    have hcz12_3 : w6.cell? ⟨gb359, 3, none⟩ = some (.int .i64 0) := (blk_cell BK359.out 3).trans rfl
    have hfz12_0 := blk_frozen BK359.out 0
    have hfz12_1 := blk_frozen BK359.out 1
    have hfz12_2 := blk_frozen BK359.out 2
    have hfz12_3 := blk_frozen BK359.out 3
    go_wp2
    go_meet
    case rel => exact ⟨_, (decide (a1 > 100)), (by first | rfl | (simp; done) | (simp [*]; done)), H', ⟨by first | omega | exact Nat.le_refl _⟩, ⟨by (with_reducible repeat refine blk_drewN ?_ _); refine blk_put (cs := #[.int .i64 t348, .string t349, .int .i64 t350, .int .i64 0]) ?_ 3 _ rfl; (with_reducible repeat refine blk_drewN ?_ _); refine blk_put (cs := #[.int .i64 t348, .string t349, .int .i64 0, .int .i64 0]) ?_ 2 _ rfl; (with_reducible repeat refine blk_drewN ?_ _); refine blk_put (cs := #[.int .i64 t348, .string (⟨#[]⟩ : ByteArray), .int .i64 0, .int .i64 0]) ?_ 1 _ rfl; (with_reducible repeat refine blk_drewN ?_ _); refine blk_put (cs := #[.int .i64 0, .string (⟨#[]⟩ : ByteArray), .int .i64 0, .int .i64 0]) ?_ 0 _ rfl; (with_reducible repeat refine blk_drewN ?_ _); exact BK359.out⟩, ⟨by repeat (first | (with_reducible first | exact HI0.out | apply IsS48.alloc | apply IsS48.drewN | apply IsS48.drew | refine IsS48.far ?_ NB0_359.out _ | apply IsS48.set_0 | apply IsS48.set_2 | apply IsS48.set_3 | apply IsS48.set_4 | apply IsS48.set_5 | apply IsS48.set_6) | exact HI0.out)⟩, ⟨by repeat (first | (with_reducible first | exact HK.out | apply KeepBut.set_ | apply keep_drewN | apply keep_drew | apply keep_alloc | refine keep_far ?_ GW359.out _) | exact HK.out)⟩, ⟨by repeat (first | (with_reducible first | exact HB.out | apply pw_below_drewN | refine below_set ?_ (IsS48.ge HI0.out) | refine below_set ?_ GE359.out) | exact HB.out)⟩⟩
   ·rw [if_neg c10] at H
    have c10b0 : (t349.toList == ([37] : List UInt8)) = false := beq_eq_false_iff_ne.mpr c10
    have c10b1 : (t349.toList != ([37] : List UInt8)) = true := bne_iff_ne.mpr c10
    have H' := Aside0.mk H
    clear H
    have hnb13 := NB359_0.out
    have hnc13 := NB0_359.out
    have hcz14_0 : w6.cell? ⟨gb359, 0, none⟩ = some (.int .i64 0) := (blk_cell BK359.out 0).trans rfl
    have hcz14_1 : w6.cell? ⟨gb359, 1, none⟩ = some (.string (⟨#[]⟩ : ByteArray)) := (blk_cell BK359.out 1).trans rfl
    have hcz14_2 : w6.cell? ⟨gb359, 2, none⟩ = some (.int .i64 0) := (blk_cell BK359.out 2).trans rfl
    have hcz14_3 : w6.cell? ⟨gb359, 3, none⟩ = some (.int .i64 0) := (blk_cell BK359.out 3).trans rfl
    have hfz14_0 := blk_frozen BK359.out 0
    have hfz14_1 := blk_frozen BK359.out 1
    have hfz14_2 := blk_frozen BK359.out 2
    have hfz14_3 := blk_frozen BK359.out 3
    go_wp2
    go_meet
    case rel => exact ⟨_, (false), (by first | rfl | (simp; done) | (simp [*]; done)), H', ⟨by first | omega | exact Nat.le_refl _⟩, ⟨by (with_reducible repeat refine blk_drewN ?_ _); refine blk_put (cs := #[.int .i64 t348, .string t349, .int .i64 t350, .int .i64 0]) ?_ 3 _ rfl; (with_reducible repeat refine blk_drewN ?_ _); refine blk_put (cs := #[.int .i64 t348, .string t349, .int .i64 0, .int .i64 0]) ?_ 2 _ rfl; (with_reducible repeat refine blk_drewN ?_ _); refine blk_put (cs := #[.int .i64 t348, .string (⟨#[]⟩ : ByteArray), .int .i64 0, .int .i64 0]) ?_ 1 _ rfl; (with_reducible repeat refine blk_drewN ?_ _); refine blk_put (cs := #[.int .i64 0, .string (⟨#[]⟩ : ByteArray), .int .i64 0, .int .i64 0]) ?_ 0 _ rfl; (with_reducible repeat refine blk_drewN ?_ _); exact BK359.out⟩, ⟨by repeat (first | (with_reducible first | exact HI0.out | apply IsS48.alloc | apply IsS48.drewN | apply IsS48.drew | refine IsS48.far ?_ NB0_359.out _ | apply IsS48.set_0 | apply IsS48.set_2 | apply IsS48.set_3 | apply IsS48.set_4 | apply IsS48.set_5 | apply IsS48.set_6) | exact HI0.out)⟩, ⟨by repeat (first | (with_reducible first | exact HK.out | apply KeepBut.set_ | apply keep_drewN | apply keep_drew | apply keep_alloc | refine keep_far ?_ GW359.out _) | exact HK.out)⟩, ⟨by repeat (first | (with_reducible first | exact HB.out | apply pw_below_drewN | refine below_set ?_ (IsS48.ge HI0.out) | refine below_set ?_ GE359.out) | exact HB.out)⟩⟩
  ·rw [if_neg c9] at H
   have c9b0 : (t348 == 4) = false := beq_eq_false_iff_ne.mpr c9
   have c9b1 : (t348 != 4) = true := bne_iff_ne.mpr c9
   (first | rw [c9b0] | rw [c9b1] | (simp only [i64_w, i32_w]; rw [c9b0]) | skip)
   have H' := Aside0.mk H
   clear H
   have hnb15 := NB359_0.out
   have hnc15 := NB0_359.out
   have hcz16_0 : w6.cell? ⟨gb359, 0, none⟩ = some (.int .i64 0) := (blk_cell BK359.out 0).trans rfl
   have hcz16_1 : w6.cell? ⟨gb359, 1, none⟩ = some (.string (⟨#[]⟩ : ByteArray)) := (blk_cell BK359.out 1).trans rfl
   have hcz16_2 : w6.cell? ⟨gb359, 2, none⟩ = some (.int .i64 0) := (blk_cell BK359.out 2).trans rfl
   have hcz16_3 : w6.cell? ⟨gb359, 3, none⟩ = some (.int .i64 0) := (blk_cell BK359.out 3).trans rfl
   have hfz16_0 := blk_frozen BK359.out 0
   have hfz16_1 := blk_frozen BK359.out 1
   have hfz16_2 := blk_frozen BK359.out 2
   have hfz16_3 := blk_frozen BK359.out 3
   go_wp2
   go_meet
   case rel => exact ⟨_, (false), (by first | rfl | (simp; done) | (simp [*]; done)), H', ⟨by first | omega | exact Nat.le_refl _⟩, ⟨by (with_reducible repeat refine blk_drewN ?_ _); refine blk_put (cs := #[.int .i64 t348, .string t349, .int .i64 t350, .int .i64 0]) ?_ 3 _ rfl; (with_reducible repeat refine blk_drewN ?_ _); refine blk_put (cs := #[.int .i64 t348, .string t349, .int .i64 0, .int .i64 0]) ?_ 2 _ rfl; (with_reducible repeat refine blk_drewN ?_ _); refine blk_put (cs := #[.int .i64 t348, .string (⟨#[]⟩ : ByteArray), .int .i64 0, .int .i64 0]) ?_ 1 _ rfl; (with_reducible repeat refine blk_drewN ?_ _); refine blk_put (cs := #[.int .i64 0, .string (⟨#[]⟩ : ByteArray), .int .i64 0, .int .i64 0]) ?_ 0 _ rfl; (with_reducible repeat refine blk_drewN ?_ _); exact BK359.out⟩, ⟨by repeat (first | (with_reducible first | exact HI0.out | apply IsS48.alloc | apply IsS48.drewN | apply IsS48.drew | refine IsS48.far ?_ NB0_359.out _ | apply IsS48.set_0 | apply IsS48.set_2 | apply IsS48.set_3 | apply IsS48.set_4 | apply IsS48.set_5 | apply IsS48.set_6) | exact HI0.out)⟩, ⟨by repeat (first | (with_reducible first | exact HK.out | apply KeepBut.set_ | apply keep_drewN | apply keep_drew | apply keep_alloc | refine keep_far ?_ GW359.out _) | exact HK.out)⟩, ⟨by repeat (first | (with_reducible first | exact HB.out | apply pw_below_drewN | refine below_set ?_ (IsS48.ge HI0.out) | refine below_set ?_ GE359.out) | exact HB.out)⟩⟩
 case rest =>
  clear HC4
  try clear c1
  try clear c2
  try clear p2
  try clear c6
  try clear c7
  try clear c9
  try clear c9b0
  try clear c9b1
  try clear c10
  try clear c10b0
  try clear c10b1
  try clear c11
  try clear c13
  try clear c15
  try clear hcz12_0
  try clear hcz12_1
  try clear hcz12_2
  try clear hcz12_3
  try clear hcz14_0
  try clear hcz14_1
  try clear hcz14_2
  try clear hcz14_3
  try clear hcz16_0
  try clear hcz16_1
  try clear hcz16_2
  try clear hcz16_3
  try clear hcz8_0
  try clear hcz8_1
  try clear hcz8_2
  try clear hcz8_3
  try clear hfz12_0
  try clear hfz12_1
  try clear hfz12_2
  try clear hfz12_3
  try clear hfz14_0
  try clear hfz14_1
  try clear hfz14_2
  try clear hfz14_3
  try clear hfz16_0
  try clear hfz16_1
  try clear hfz16_2
  try clear hfz16_3
  try clear hfz8_0
  try clear hfz8_1
  try clear hfz8_2
  try clear hfz8_3
  obtain ⟨kq, x19_3, rfl, HA, HJ3, BK359, HI0, HK, HB⟩ := hcut
  cases kq with
  | zero => exact absurd HA.out (by simp [length_unit.j0])
  | succ kj3 =>
   have H := HA.out
   clear HA
   simp only [length_unit.j0] at H
   have HC17 := Aside0.mk H
   clear H
   go_upto_if 19 with (fail)
   go_cut [] (fun wc => ∃ (kq : Nat) (x1000_16 : Bool) (x1001_16 : List (S34)) (x1002_16 : Int) (x1003_16 : Int) (x1004_16 : Int) (x1005_16 : Int) (x1006_16 : Int) (u1001 : Value), Aside0 (length_unit.j1 kq x1000_16 x1001_16 x1002_16 x1003_16 x1004_16 x1005_16 x1006_16 = some (r1, r2, r3, r4, r5, r6, r7, r8)) ∧ Aside0 (kq ≤ kj3) ∧ Aside0 (wc.heap[gb359]? = some (.cells #[.int .i64 t348, .string t349, .int .i64 t350, .int .i64 t351] 34 (0, 0))) ∧ Aside0 (IsS48 w0 wc g x1000_16 x1001_16 x1002_16 x1003_16 x1004_16 x1005_16 x1006_16) ∧ Aside0 (KeepBut w wc g none) ∧ Aside0 (Below w0.heap.size w0 wc))
   case first =>
    have H := HC17.out
    clear HC17
    by_cases c18 : x19_3 = true
    ·subst c18
     have H1 : ((cursor_Cursor_Fail.f t352 t353 t354 t355 t356 t357 t358 3).bind fun bt360 => (length_unit.j1 kj3 bt360.1 bt360.2.1 bt360.2.2.1 bt360.2.2.2.1 bt360.2.2.2.2.1 bt360.2.2.2.2.2.1 bt360.2.2.2.2.2.2)) = some (r1, r2, r3, r4, r5, r6, r7, r8) := by rw [if_pos rfl] at H; exact H
     clear H
     have H := H1
     clear H1
     replace H := Option.bind_eq_some_iff.mp H
     obtain ⟨⟨t360, t361, t362, t363, t364, t365, t366⟩, A190, H⟩ := H
     replace H : (length_unit.j1 kj3 t360 t361 t362 t363 t364 t365 t366) = some (r1, r2, r3, r4, r5, r6, r7, r8) := H
     have A19 := Aside0.mk A190
     clear A190
     have H' := Aside0.mk H
     clear H
     go_wp2_with (first | ((with_reducible refine gate_callee (f := 19) rfl ?_); refine goesL_ (some 21) rfl rfl Try.func19 (by kernel_rfl) rfl #[.pointer (some ⟨g, 0, none⟩), .int .i64 3] rfl (by (try simp only [List.map_toArray, List.map_cons, List.map_nil]); first | done | rfl | (simp only [List.length_drop, List.length_take]; rfl)) ?_; (with_reducible refine (cursor_Cursor_Fail.calls g t352 t353 t354 t355 t356 t357 t358 3 t360 t361 t362 t363 t364 t365 t366 w0 _ ?side1 ?side2 A19.out).mono ?_); (case side1 => repeat (first | (with_reducible first | exact HI0.out | apply IsS48.alloc | apply IsS48.drewN | apply IsS48.drew | refine IsS48.far ?_ NB0_359.out _ | apply IsS48.set_0 | apply IsS48.set_2 | apply IsS48.set_3 | apply IsS48.set_4 | apply IsS48.set_5 | apply IsS48.set_6) | exact HI0.out)); (case side2 => repeat (first | (with_reducible first | exact HB.out | apply pw_below_drewN | refine below_set ?_ (IsS48.ge HI0.out) | refine below_set ?_ GE359.out) | exact HB.out)); rintro e w20 ⟨rfl, hi, hb, hk⟩; refine ⟨_, rfl, ?_⟩; have n0_ := Aside0.mk (KeepBut.blk hk (g' := gb359) (o := .cells #[.int .i64 t348, .string t349, .int .i64 t350, .int .i64 t351] 34 (0, 0)) (by (with_reducible repeat refine blk_drewN ?_ _); exact BK359.out) NB359_0.out (by simp)); have n1_ := Aside0.mk (KeepBut.trans (by repeat (first | (with_reducible first | exact HK.out | apply KeepBut.set_ | apply keep_drewN | apply keep_drew | apply keep_alloc | refine keep_far ?_ GW359.out _) | exact HK.out)) hk (.inl rfl)); have n2_ := Aside0.mk (hb); have n3_ := Aside0.mk (hi); clear BK359 HK HB HI0; have BK359 := n0_; have HK := n1_; have HB := n2_; have HI0 := n3_; clear n0_ n1_ n2_ n3_; (try clear hb)))
     go_meet
     case rel => exact ⟨_, (t360), (t361), (t362), (t363), (t364), (t365), (t366), (Value.bool true), H', ⟨by have := HJ3.out; first | omega | exact Nat.le_refl _⟩, ⟨by (with_reducible repeat refine blk_drewN ?_ _); exact BK359.out⟩, ⟨by repeat (first | (with_reducible first | exact HI0.out | apply IsS48.alloc | apply IsS48.drewN | apply IsS48.drew | refine IsS48.far ?_ NB0_359.out _ | apply IsS48.set_0 | apply IsS48.set_2 | apply IsS48.set_3 | apply IsS48.set_4 | apply IsS48.set_5 | apply IsS48.set_6) | exact HI0.out)⟩, ⟨by repeat (first | (with_reducible first | exact HK.out | apply KeepBut.set_ | apply keep_drewN | apply keep_drew | apply keep_alloc | refine keep_far ?_ GW359.out _) | exact HK.out)⟩, ⟨by repeat (first | (with_reducible first | exact HB.out | apply pw_below_drewN | refine below_set ?_ (IsS48.ge HI0.out) | refine below_set ?_ GE359.out) | exact HB.out)⟩⟩
    ·replace c18 := Bool.eq_false_iff.mpr c18
     subst c18
     have H1 : (length_unit.j1 kj3 t352 t353 t354 t355 t356 t357 t358) = some (r1, r2, r3, r4, r5, r6, r7, r8) := by rw [if_neg (show ¬ (false = true) by decide)] at H; exact H
     clear H
     have H := H1
     clear H1
     have H' := Aside0.mk H
     clear H
     go_wp2
     go_meet
     case rel => exact ⟨_, (t352), (t353), (t354), (t355), (t356), (t357), (t358), (Value.bool true), H', ⟨by have := HJ3.out; first | omega | exact Nat.le_refl _⟩, ⟨by (with_reducible repeat refine blk_drewN ?_ _); exact BK359.out⟩, ⟨by repeat (first | (with_reducible first | exact HI0.out | apply IsS48.alloc | apply IsS48.drewN | apply IsS48.drew | refine IsS48.far ?_ NB0_359.out _ | apply IsS48.set_0 | apply IsS48.set_2 | apply IsS48.set_3 | apply IsS48.set_4 | apply IsS48.set_5 | apply IsS48.set_6) | exact HI0.out)⟩, ⟨by repeat (first | (with_reducible first | exact HK.out | apply KeepBut.set_ | apply keep_drewN | apply keep_drew | apply keep_alloc | refine keep_far ?_ GW359.out _) | exact HK.out)⟩, ⟨by repeat (first | (with_reducible first | exact HB.out | apply pw_below_drewN | refine below_set ?_ (IsS48.ge HI0.out) | refine below_set ?_ GE359.out) | exact HB.out)⟩⟩
   case rest =>
    clear HC17
    try clear c1
    try clear c2
    try clear p2
    try clear c6
    try clear c7
    try clear c9
    try clear c9b0
    try clear c9b1
    try clear c10
    try clear c10b0
    try clear c10b1
    try clear c11
    try clear c13
    try clear c15
    try clear c18
    try clear c19
    try clear hcz12_0
    try clear hcz12_1
    try clear hcz12_2
    try clear hcz12_3
    try clear hcz14_0
    try clear hcz14_1
    try clear hcz14_2
    try clear hcz14_3
    try clear hcz16_0
    try clear hcz16_1
    try clear hcz16_2
    try clear hcz16_3
    try clear hcz8_0
    try clear hcz8_1
    try clear hcz8_2
    try clear hcz8_3
    try clear hfz12_0
    try clear hfz12_1
    try clear hfz12_2
    try clear hfz12_3
    try clear hfz14_0
    try clear hfz14_1
    try clear hfz14_2
    try clear hfz14_3
    try clear hfz16_0
    try clear hfz16_1
    try clear hfz16_2
    try clear hfz16_3
    try clear hfz8_0
    try clear hfz8_1
    try clear hfz8_2
    try clear hfz8_3
    try clear p2
    obtain ⟨kq, x1000_16, x1001_16, x1002_16, x1003_16, x1004_16, x1005_16, x1006_16, u1001, HA, HJ16, BK359, HI0, HK, HB⟩ := hcut
    cases kq with
    | zero => exact absurd HA.out (by simp [length_unit.j1])
    | succ kj16 =>
     have H := HA.out
     clear HA
     simp only [length_unit.j1] at H
     replace H := Option.bind_eq_some_iff.mp H
     obtain ⟨⟨t367, t368, t369, t370, t371, t372, t373, t374⟩, A210, H⟩ := H
     replace H : (if t367 = true then (some (0, t368, t369, t370, t371, t372, t373, t374)) else ((cursor_Cursor_Take.f t368 t369 t370 t371 t372 t373 t374 1 (⟨#[101, 112, 111, 99, 104, 115]⟩ : ByteArray)).bind fun bt375 => (if bt375.1 = true then (some (1, bt375.2.1, bt375.2.2.1, bt375.2.2.2.1, bt375.2.2.2.2.1, bt375.2.2.2.2.2.1, bt375.2.2.2.2.2.2.1, bt375.2.2.2.2.2.2.2)) else ((cursor_Cursor_Want.f bt375.2.1 bt375.2.2.1 bt375.2.2.2.1 bt375.2.2.2.2.1 bt375.2.2.2.2.2.1 bt375.2.2.2.2.2.2.1 bt375.2.2.2.2.2.2.2 4 (⟨#[37]⟩ : ByteArray)).bind fun bt383 => (some (2, bt383.1, bt383.2.1, bt383.2.2.1, bt383.2.2.2.1, bt383.2.2.2.2.1, bt383.2.2.2.2.2.1, bt383.2.2.2.2.2.2)))))) = some (r1, r2, r3, r4, r5, r6, r7, r8) := H
     have A21 := Aside0.mk A210
     clear A210
     by_cases c22 : t367 = true
     ·subst c22
      have H1 : (some (0, t368, t369, t370, t371, t372, t373, t374)) = some (r1, r2, r3, r4, r5, r6, r7, r8) := by rw [if_pos rfl] at H; exact H
      clear H
      have H := H1
      clear H1
      simp only [Option.some.injEq, Prod.mk.injEq] at H
      obtain ⟨rfl, rfl, rfl, rfl, rfl, rfl, rfl, rfl⟩ := H
      go_wp2_with (first | ((with_reducible refine gate_callee (f := 23) rfl ?_); refine goesL_ (some 24) rfl rfl Try.func23 (by kernel_rfl) rfl #[.pointer (some ⟨g, 0, none⟩), .int .i64 1, .string (⟨#[115, 116, 101, 112, 115]⟩ : ByteArray)] rfl (by (try simp only [List.map_toArray, List.map_cons, List.map_nil]); first | done | rfl | (simp only [List.length_drop, List.length_take]; rfl)) ?_; (with_reducible refine (cursor_Cursor_Take.calls g x1000_16 x1001_16 x1002_16 x1003_16 x1004_16 x1005_16 x1006_16 1 (⟨#[115, 116, 101, 112, 115]⟩ : ByteArray) true t368 t369 t370 t371 t372 t373 t374 w0 _ ?side1 ?side2 A21.out).mono ?_); (case side1 => repeat (first | (with_reducible first | exact HI0.out | apply IsS48.alloc | apply IsS48.drewN | apply IsS48.drew | refine IsS48.far ?_ NB0_359.out _ | apply IsS48.set_0 | apply IsS48.set_2 | apply IsS48.set_3 | apply IsS48.set_4 | apply IsS48.set_5 | apply IsS48.set_6) | exact HI0.out)); (case side2 => repeat (first | (with_reducible first | exact HB.out | apply pw_below_drewN | refine below_set ?_ (IsS48.ge HI0.out) | refine below_set ?_ GE359.out) | exact HB.out)); rintro e w23 ⟨rfl, hi, hb, hk⟩; refine ⟨_, rfl, ?_⟩; have n0_ := Aside0.mk (KeepBut.blk hk (g' := gb359) (o := .cells #[.int .i64 t348, .string t349, .int .i64 t350, .int .i64 t351] 34 (0, 0)) (by (with_reducible repeat refine blk_drewN ?_ _); exact BK359.out) NB359_0.out (by simp)); have n1_ := Aside0.mk (KeepBut.trans (by repeat (first | (with_reducible first | exact HK.out | apply KeepBut.set_ | apply keep_drewN | apply keep_drew | apply keep_alloc | refine keep_far ?_ GW359.out _) | exact HK.out)) hk (.inl rfl)); have n2_ := Aside0.mk (hb); have n3_ := Aside0.mk (hi); clear BK359 HK HB HI0; have BK359 := n0_; have HK := n1_; have HB := n2_; have HI0 := n3_; clear n0_ n1_ n2_ n3_; (try clear hb)))
      go_ret
      exact ⟨by first | rfl | (simp [*] <;> rfl), by repeat (first | (with_reducible first | exact HI0.out | apply IsS48.alloc | apply IsS48.drewN | apply IsS48.drew | refine IsS48.far ?_ NB0_359.out _ | apply IsS48.set_0 | apply IsS48.set_2 | apply IsS48.set_3 | apply IsS48.set_4 | apply IsS48.set_5 | apply IsS48.set_6) | exact HI0.out), by repeat (first | (with_reducible first | exact HB.out | apply pw_below_drewN | refine below_set ?_ (IsS48.ge HI0.out) | refine below_set ?_ GE359.out) | exact HB.out), by repeat (first | (with_reducible first | exact HK.out | apply KeepBut.set_ | apply keep_drewN | apply keep_drew | apply keep_alloc | refine keep_far ?_ GW359.out _) | exact HK.out)⟩
     ·replace c22 := Bool.eq_false_iff.mpr c22
      subst c22
      have H1 : ((cursor_Cursor_Take.f t368 t369 t370 t371 t372 t373 t374 1 (⟨#[101, 112, 111, 99, 104, 115]⟩ : ByteArray)).bind fun bt375 => (if bt375.1 = true then (some (1, bt375.2.1, bt375.2.2.1, bt375.2.2.2.1, bt375.2.2.2.2.1, bt375.2.2.2.2.2.1, bt375.2.2.2.2.2.2.1, bt375.2.2.2.2.2.2.2)) else ((cursor_Cursor_Want.f bt375.2.1 bt375.2.2.1 bt375.2.2.2.1 bt375.2.2.2.2.1 bt375.2.2.2.2.2.1 bt375.2.2.2.2.2.2.1 bt375.2.2.2.2.2.2.2 4 (⟨#[37]⟩ : ByteArray)).bind fun bt383 => (some (2, bt383.1, bt383.2.1, bt383.2.2.1, bt383.2.2.2.1, bt383.2.2.2.2.1, bt383.2.2.2.2.2.1, bt383.2.2.2.2.2.2))))) = some (r1, r2, r3, r4, r5, r6, r7, r8) := by rw [if_neg (show ¬ (false = true) by decide)] at H; exact H
      clear H
      have H := H1
      clear H1
      replace H := Option.bind_eq_some_iff.mp H
      obtain ⟨⟨t375, t376, t377, t378, t379, t380, t381, t382⟩, A240, H⟩ := H
      replace H : (if t375 = true then (some (1, t376, t377, t378, t379, t380, t381, t382)) else ((cursor_Cursor_Want.f t376 t377 t378 t379 t380 t381 t382 4 (⟨#[37]⟩ : ByteArray)).bind fun bt383 => (some (2, bt383.1, bt383.2.1, bt383.2.2.1, bt383.2.2.2.1, bt383.2.2.2.2.1, bt383.2.2.2.2.2.1, bt383.2.2.2.2.2.2)))) = some (r1, r2, r3, r4, r5, r6, r7, r8) := H
      have A24 := Aside0.mk A240
      clear A240
      by_cases c25 : t375 = true
      ·subst c25
       have H1 : (some (1, t376, t377, t378, t379, t380, t381, t382)) = some (r1, r2, r3, r4, r5, r6, r7, r8) := by rw [if_pos rfl] at H; exact H
       clear H
       have H := H1
       clear H1
       simp only [Option.some.injEq, Prod.mk.injEq] at H
       obtain ⟨rfl, rfl, rfl, rfl, rfl, rfl, rfl, rfl⟩ := H
       go_wp2_with (first | ((with_reducible refine gate_callee (f := 23) rfl ?_); refine goesL_ (some 24) rfl rfl Try.func23 (by kernel_rfl) rfl #[.pointer (some ⟨g, 0, none⟩), .int .i64 1, .string (⟨#[115, 116, 101, 112, 115]⟩ : ByteArray)] rfl (by (try simp only [List.map_toArray, List.map_cons, List.map_nil]); first | done | rfl | (simp only [List.length_drop, List.length_take]; rfl)) ?_; (with_reducible refine (cursor_Cursor_Take.calls g x1000_16 x1001_16 x1002_16 x1003_16 x1004_16 x1005_16 x1006_16 1 (⟨#[115, 116, 101, 112, 115]⟩ : ByteArray) false t368 t369 t370 t371 t372 t373 t374 w0 _ ?side1 ?side2 A21.out).mono ?_); (case side1 => repeat (first | (with_reducible first | exact HI0.out | apply IsS48.alloc | apply IsS48.drewN | apply IsS48.drew | refine IsS48.far ?_ NB0_359.out _ | apply IsS48.set_0 | apply IsS48.set_2 | apply IsS48.set_3 | apply IsS48.set_4 | apply IsS48.set_5 | apply IsS48.set_6) | exact HI0.out)); (case side2 => repeat (first | (with_reducible first | exact HB.out | apply pw_below_drewN | refine below_set ?_ (IsS48.ge HI0.out) | refine below_set ?_ GE359.out) | exact HB.out)); rintro e w26 ⟨rfl, hi, hb, hk⟩; refine ⟨_, rfl, ?_⟩; have n0_ := Aside0.mk (KeepBut.blk hk (g' := gb359) (o := .cells #[.int .i64 t348, .string t349, .int .i64 t350, .int .i64 t351] 34 (0, 0)) (by (with_reducible repeat refine blk_drewN ?_ _); exact BK359.out) NB359_0.out (by simp)); have n1_ := Aside0.mk (KeepBut.trans (by repeat (first | (with_reducible first | exact HK.out | apply KeepBut.set_ | apply keep_drewN | apply keep_drew | apply keep_alloc | refine keep_far ?_ GW359.out _) | exact HK.out)) hk (.inl rfl)); have n2_ := Aside0.mk (hb); have n3_ := Aside0.mk (hi); clear BK359 HK HB HI0; have BK359 := n0_; have HK := n1_; have HB := n2_; have HI0 := n3_; clear n0_ n1_ n2_ n3_; (try clear hb)) | ((with_reducible refine gate_callee (f := 23) rfl ?_); refine goesL_ (some 27) rfl rfl Try.func23 (by kernel_rfl) rfl #[.pointer (some ⟨g, 0, none⟩), .int .i64 1, .string (⟨#[101, 112, 111, 99, 104, 115]⟩ : ByteArray)] rfl (by (try simp only [List.map_toArray, List.map_cons, List.map_nil]); first | done | rfl | (simp only [List.length_drop, List.length_take]; rfl)) ?_; (with_reducible refine (cursor_Cursor_Take.calls g t368 t369 t370 t371 t372 t373 t374 1 (⟨#[101, 112, 111, 99, 104, 115]⟩ : ByteArray) true t376 t377 t378 t379 t380 t381 t382 w0 _ ?side1 ?side2 A24.out).mono ?_); (case side1 => repeat (first | (with_reducible first | exact HI0.out | apply IsS48.alloc | apply IsS48.drewN | apply IsS48.drew | refine IsS48.far ?_ NB0_359.out _ | apply IsS48.set_0 | apply IsS48.set_2 | apply IsS48.set_3 | apply IsS48.set_4 | apply IsS48.set_5 | apply IsS48.set_6) | exact HI0.out)); (case side2 => repeat (first | (with_reducible first | exact HB.out | apply pw_below_drewN | refine below_set ?_ (IsS48.ge HI0.out) | refine below_set ?_ GE359.out) | exact HB.out)); rintro e w27 ⟨rfl, hi, hb, hk⟩; refine ⟨_, rfl, ?_⟩; have n0_ := Aside0.mk (KeepBut.blk hk (g' := gb359) (o := .cells #[.int .i64 t348, .string t349, .int .i64 t350, .int .i64 t351] 34 (0, 0)) (by (with_reducible repeat refine blk_drewN ?_ _); exact BK359.out) NB359_0.out (by simp)); have n1_ := Aside0.mk (KeepBut.trans (by repeat (first | (with_reducible first | exact HK.out | apply KeepBut.set_ | apply keep_drewN | apply keep_drew | apply keep_alloc | refine keep_far ?_ GW359.out _) | exact HK.out)) hk (.inl rfl)); have n2_ := Aside0.mk (hb); have n3_ := Aside0.mk (hi); clear BK359 HK HB HI0; have BK359 := n0_; have HK := n1_; have HB := n2_; have HI0 := n3_; clear n0_ n1_ n2_ n3_; (try clear hb)))
       go_ret
       exact ⟨by first | rfl | (simp [*] <;> rfl), by repeat (first | (with_reducible first | exact HI0.out | apply IsS48.alloc | apply IsS48.drewN | apply IsS48.drew | refine IsS48.far ?_ NB0_359.out _ | apply IsS48.set_0 | apply IsS48.set_2 | apply IsS48.set_3 | apply IsS48.set_4 | apply IsS48.set_5 | apply IsS48.set_6) | exact HI0.out), by repeat (first | (with_reducible first | exact HB.out | apply pw_below_drewN | refine below_set ?_ (IsS48.ge HI0.out) | refine below_set ?_ GE359.out) | exact HB.out), by repeat (first | (with_reducible first | exact HK.out | apply KeepBut.set_ | apply keep_drewN | apply keep_drew | apply keep_alloc | refine keep_far ?_ GW359.out _) | exact HK.out)⟩
      ·replace c25 := Bool.eq_false_iff.mpr c25
       subst c25
       have H1 : ((cursor_Cursor_Want.f t376 t377 t378 t379 t380 t381 t382 4 (⟨#[37]⟩ : ByteArray)).bind fun bt383 => (some (2, bt383.1, bt383.2.1, bt383.2.2.1, bt383.2.2.2.1, bt383.2.2.2.2.1, bt383.2.2.2.2.2.1, bt383.2.2.2.2.2.2))) = some (r1, r2, r3, r4, r5, r6, r7, r8) := by rw [if_neg (show ¬ (false = true) by decide)] at H; exact H
       clear H
       have H := H1
       clear H1
       replace H := Option.bind_eq_some_iff.mp H
       obtain ⟨⟨t383, t384, t385, t386, t387, t388, t389⟩, A280, H⟩ := H
       replace H : (some (2, t383, t384, t385, t386, t387, t388, t389)) = some (r1, r2, r3, r4, r5, r6, r7, r8) := H
       have A28 := Aside0.mk A280
       clear A280
       simp only [Option.some.injEq, Prod.mk.injEq] at H
       obtain ⟨rfl, rfl, rfl, rfl, rfl, rfl, rfl, rfl⟩ := H
       go_wp2_with (first | ((with_reducible refine gate_callee (f := 23) rfl ?_); refine goesL_ (some 24) rfl rfl Try.func23 (by kernel_rfl) rfl #[.pointer (some ⟨g, 0, none⟩), .int .i64 1, .string (⟨#[115, 116, 101, 112, 115]⟩ : ByteArray)] rfl (by (try simp only [List.map_toArray, List.map_cons, List.map_nil]); first | done | rfl | (simp only [List.length_drop, List.length_take]; rfl)) ?_; (with_reducible refine (cursor_Cursor_Take.calls g x1000_16 x1001_16 x1002_16 x1003_16 x1004_16 x1005_16 x1006_16 1 (⟨#[115, 116, 101, 112, 115]⟩ : ByteArray) false t368 t369 t370 t371 t372 t373 t374 w0 _ ?side1 ?side2 A21.out).mono ?_); (case side1 => repeat (first | (with_reducible first | exact HI0.out | apply IsS48.alloc | apply IsS48.drewN | apply IsS48.drew | refine IsS48.far ?_ NB0_359.out _ | apply IsS48.set_0 | apply IsS48.set_2 | apply IsS48.set_3 | apply IsS48.set_4 | apply IsS48.set_5 | apply IsS48.set_6) | exact HI0.out)); (case side2 => repeat (first | (with_reducible first | exact HB.out | apply pw_below_drewN | refine below_set ?_ (IsS48.ge HI0.out) | refine below_set ?_ GE359.out) | exact HB.out)); rintro e w29 ⟨rfl, hi, hb, hk⟩; refine ⟨_, rfl, ?_⟩; have n0_ := Aside0.mk (KeepBut.blk hk (g' := gb359) (o := .cells #[.int .i64 t348, .string t349, .int .i64 t350, .int .i64 t351] 34 (0, 0)) (by (with_reducible repeat refine blk_drewN ?_ _); exact BK359.out) NB359_0.out (by simp)); have n1_ := Aside0.mk (KeepBut.trans (by repeat (first | (with_reducible first | exact HK.out | apply KeepBut.set_ | apply keep_drewN | apply keep_drew | apply keep_alloc | refine keep_far ?_ GW359.out _) | exact HK.out)) hk (.inl rfl)); have n2_ := Aside0.mk (hb); have n3_ := Aside0.mk (hi); clear BK359 HK HB HI0; have BK359 := n0_; have HK := n1_; have HB := n2_; have HI0 := n3_; clear n0_ n1_ n2_ n3_; (try clear hb)) | ((with_reducible refine gate_callee (f := 23) rfl ?_); refine goesL_ (some 27) rfl rfl Try.func23 (by kernel_rfl) rfl #[.pointer (some ⟨g, 0, none⟩), .int .i64 1, .string (⟨#[101, 112, 111, 99, 104, 115]⟩ : ByteArray)] rfl (by (try simp only [List.map_toArray, List.map_cons, List.map_nil]); first | done | rfl | (simp only [List.length_drop, List.length_take]; rfl)) ?_; (with_reducible refine (cursor_Cursor_Take.calls g t368 t369 t370 t371 t372 t373 t374 1 (⟨#[101, 112, 111, 99, 104, 115]⟩ : ByteArray) false t376 t377 t378 t379 t380 t381 t382 w0 _ ?side1 ?side2 A24.out).mono ?_); (case side1 => repeat (first | (with_reducible first | exact HI0.out | apply IsS48.alloc | apply IsS48.drewN | apply IsS48.drew | refine IsS48.far ?_ NB0_359.out _ | apply IsS48.set_0 | apply IsS48.set_2 | apply IsS48.set_3 | apply IsS48.set_4 | apply IsS48.set_5 | apply IsS48.set_6) | exact HI0.out)); (case side2 => repeat (first | (with_reducible first | exact HB.out | apply pw_below_drewN | refine below_set ?_ (IsS48.ge HI0.out) | refine below_set ?_ GE359.out) | exact HB.out)); rintro e w30 ⟨rfl, hi, hb, hk⟩; refine ⟨_, rfl, ?_⟩; have n0_ := Aside0.mk (KeepBut.blk hk (g' := gb359) (o := .cells #[.int .i64 t348, .string t349, .int .i64 t350, .int .i64 t351] 34 (0, 0)) (by (with_reducible repeat refine blk_drewN ?_ _); exact BK359.out) NB359_0.out (by simp)); have n1_ := Aside0.mk (KeepBut.trans (by repeat (first | (with_reducible first | exact HK.out | apply KeepBut.set_ | apply keep_drewN | apply keep_drew | apply keep_alloc | refine keep_far ?_ GW359.out _) | exact HK.out)) hk (.inl rfl)); have n2_ := Aside0.mk (hb); have n3_ := Aside0.mk (hi); clear BK359 HK HB HI0; have BK359 := n0_; have HK := n1_; have HB := n2_; have HI0 := n3_; clear n0_ n1_ n2_ n3_; (try clear hb)) | ((with_reducible refine gate_callee (f := 20) rfl ?_); refine goesL_ (some 29) rfl rfl Try.func20 (by kernel_rfl) rfl #[.pointer (some ⟨g, 0, none⟩), .int .i64 4, .string (⟨#[37]⟩ : ByteArray)] rfl (by (try simp only [List.map_toArray, List.map_cons, List.map_nil]); first | done | rfl | (simp only [List.length_drop, List.length_take]; rfl)) ?_; (with_reducible refine (cursor_Cursor_Want.calls g t376 t377 t378 t379 t380 t381 t382 4 (⟨#[37]⟩ : ByteArray) t383 t384 t385 t386 t387 t388 t389 w0 _ ?side1 ?side2 A28.out).mono ?_); (case side1 => repeat (first | (with_reducible first | exact HI0.out | apply IsS48.alloc | apply IsS48.drewN | apply IsS48.drew | refine IsS48.far ?_ NB0_359.out _ | apply IsS48.set_0 | apply IsS48.set_2 | apply IsS48.set_3 | apply IsS48.set_4 | apply IsS48.set_5 | apply IsS48.set_6) | exact HI0.out)); (case side2 => repeat (first | (with_reducible first | exact HB.out | apply pw_below_drewN | refine below_set ?_ (IsS48.ge HI0.out) | refine below_set ?_ GE359.out) | exact HB.out)); rintro e w31 ⟨rfl, hi, hb, hk⟩; refine ⟨_, rfl, ?_⟩; have n0_ := Aside0.mk (KeepBut.blk hk (g' := gb359) (o := .cells #[.int .i64 t348, .string t349, .int .i64 t350, .int .i64 t351] 34 (0, 0)) (by (with_reducible repeat refine blk_drewN ?_ _); exact BK359.out) NB359_0.out (by simp)); have n1_ := Aside0.mk (KeepBut.trans (by repeat (first | (with_reducible first | exact HK.out | apply KeepBut.set_ | apply keep_drewN | apply keep_drew | apply keep_alloc | refine keep_far ?_ GW359.out _) | exact HK.out)) hk (.inl rfl)); have n2_ := Aside0.mk (hb); have n3_ := Aside0.mk (hi); clear BK359 HK HB HI0; have BK359 := n0_; have HK := n1_; have HB := n2_; have HI0 := n3_; clear n0_ n1_ n2_ n3_; (try clear hb)))
       go_ret
       exact ⟨by first | rfl | (simp [*] <;> rfl), by repeat (first | (with_reducible first | exact HI0.out | apply IsS48.alloc | apply IsS48.drewN | apply IsS48.drew | refine IsS48.far ?_ NB0_359.out _ | apply IsS48.set_0 | apply IsS48.set_2 | apply IsS48.set_3 | apply IsS48.set_4 | apply IsS48.set_5 | apply IsS48.set_6) | exact HI0.out), by repeat (first | (with_reducible first | exact HB.out | apply pw_below_drewN | refine below_set ?_ (IsS48.ge HI0.out) | refine below_set ?_ GE359.out) | exact HB.out), by repeat (first | (with_reducible first | exact HK.out | apply KeepBut.set_ | apply keep_drewN | apply keep_drew | apply keep_alloc | refine keep_far ?_ GW359.out _) | exact HK.out)⟩

/-! ### length_Read: function 33 -/
def length_Read.f (k : Nat) (s0_0 : Bool) (s0_1 : List (S34)) (s0_2 : Int) (s0_3 : Int) (s0_4 : Int) (s0_5 : Int) (s0_6 : Int) : Option (Int × Int × Bool × (List (S34)) × Int × Int × Int × Int × Int) := (cursor_Cursor_Take.f s0_0 s0_1 s0_2 s0_3 s0_4 s0_5 s0_6 1 (⟨#[114, 101, 115, 116]⟩ : ByteArray)).bind fun bt391 => (if bt391.1 = true then (some (3, 0, bt391.2.1, bt391.2.2.1, bt391.2.2.2.1, bt391.2.2.2.2.1, bt391.2.2.2.2.2.1, bt391.2.2.2.2.2.2.1, bt391.2.2.2.2.2.2.2)) else ((cursor_Cursor_Count.f k bt391.2.1 bt391.2.2.1 bt391.2.2.2.1 bt391.2.2.2.2.1 bt391.2.2.2.2.2.1 bt391.2.2.2.2.2.2.1 bt391.2.2.2.2.2.2.2 0 1099511627776).bind fun bt399 => ((length_unit.f k bt399.2.1 bt399.2.2.1 bt399.2.2.2.1 bt399.2.2.2.2.1 bt399.2.2.2.2.2.1 bt399.2.2.2.2.2.2.1 bt399.2.2.2.2.2.2.2 bt399.1).bind fun bt407 => ((cursor_Cursor_Fault.f bt407.2.1 bt407.2.2.1 bt407.2.2.2.1 bt407.2.2.2.2.1 bt407.2.2.2.2.2.1 bt407.2.2.2.2.2.2.1 bt407.2.2.2.2.2.2.2).bind fun bt416 => (if bt416.2.2.1 = 0 then (some (bt407.1, bt399.1, bt416.2.2.2.1, bt416.2.2.2.2.1, bt416.2.2.2.2.2.1, bt416.2.2.2.2.2.2.1, bt416.2.2.2.2.2.2.2.1, bt416.2.2.2.2.2.2.2.2.1, bt416.2.2.2.2.2.2.2.2.2)) else (some (0, 0, bt416.2.2.2.1, bt416.2.2.2.2.1, bt416.2.2.2.2.2.1, bt416.2.2.2.2.2.2.1, bt416.2.2.2.2.2.2.2.1, bt416.2.2.2.2.2.2.2.2.1, bt416.2.2.2.2.2.2.2.2.2)))))))
theorem length_Read.mono : ∀ a0 a1 a2 a3 a4 a5 a6 k, LeO (length_Read.f k a0 a1 a2 a3 a4 a5 a6) (length_Read.f (k + 1) a0 a1 a2 a3 a4 a5 a6) := by
 intro a0 a1 a2 a3 a4 a5 a6 k
 unfold length_Read.f
 repeat' first
   | (with_reducible exact cursor_Cursor_Count.mono _ _ _ _ _ _ _ _ _ _)
   | (with_reducible exact length_unit.mono _ _ _ _ _ _ _ _ _)
   | (with_reducible exact LeO.refl _)
   | (with_reducible exact LeO.none _)
   | (with_reducible refine LeO.ite ?_ ?_)
   | (with_reducible refine LeO.bind ?_ (fun _ => ?_))
   | exact cursor_Cursor_Count.mono _ _ _ _ _ _ _ _ _ _
   | exact length_unit.mono _ _ _ _ _ _ _ _ _
   | exact LeO.none _
   | refine LeO.ite ?_ ?_
   | refine LeO.bind ?_ (fun _ => ?_)
set_option maxHeartbeats 8000000 in
set_option maxRecDepth 100000 in
theorem length_Read.calls (k : Nat) (g : Nat) (s0_0 : Bool) (s0_1 : List (S34)) (s0_2 : Int) (s0_3 : Int) (s0_4 : Int) (s0_5 : Int) (s0_6 : Int) (r1 : Int) (r2 : Int) (r3 : Bool) (r4 : List (S34)) (r5 : Int) (r6 : Int) (r7 : Int) (r8 : Int) (r9 : Int) (w0 w : World) (hI : IsS48 w0 w g s0_0 s0_1 s0_2 s0_3 s0_4 s0_5 s0_6) (hB : Below w0.heap.size w0 w) (h : length_Read.f k s0_0 s0_1 s0_2 s0_3 s0_4 s0_5 s0_6 = some (r1, r2, r3, r4, r5, r6, r7, r8, r9)) :
  Calls Try.prog 33 #[.pointer (some ⟨g, 0, none⟩)] w fun e w' => e = .returned (.agg #[.int .i64 r1, .int .i64 r2]) ∧ IsS48 w0 w' g r3 r4 r5 r6 r7 r8 r9 ∧ Below w0.heap.size w0 w' ∧ KeepBut w w' g none := by
 have hu60 := Try.underlying60
 have hu25 := Try.underlying25
 have HI0 := Aside0.mk hI
 have HK := Aside0.mk (KeepBut.refl w g none)
 have HL := Aside0.mk hB.size
 clear hI
 have HW0 := Aside0.mk hB.size
 have HB := Aside0.mk hB
 clear hB
 have H : ((cursor_Cursor_Take.f s0_0 s0_1 s0_2 s0_3 s0_4 s0_5 s0_6 1 (⟨#[114, 101, 115, 116]⟩ : ByteArray)).bind fun bt391 => (if bt391.1 = true then (some (3, 0, bt391.2.1, bt391.2.2.1, bt391.2.2.2.1, bt391.2.2.2.2.1, bt391.2.2.2.2.2.1, bt391.2.2.2.2.2.2.1, bt391.2.2.2.2.2.2.2)) else ((cursor_Cursor_Count.f k bt391.2.1 bt391.2.2.1 bt391.2.2.2.1 bt391.2.2.2.2.1 bt391.2.2.2.2.2.1 bt391.2.2.2.2.2.2.1 bt391.2.2.2.2.2.2.2 0 1099511627776).bind fun bt399 => ((length_unit.f k bt399.2.1 bt399.2.2.1 bt399.2.2.2.1 bt399.2.2.2.2.1 bt399.2.2.2.2.2.1 bt399.2.2.2.2.2.2.1 bt399.2.2.2.2.2.2.2 bt399.1).bind fun bt407 => ((cursor_Cursor_Fault.f bt407.2.1 bt407.2.2.1 bt407.2.2.2.1 bt407.2.2.2.2.1 bt407.2.2.2.2.2.1 bt407.2.2.2.2.2.2.1 bt407.2.2.2.2.2.2.2).bind fun bt416 => (if bt416.2.2.1 = 0 then (some (bt407.1, bt399.1, bt416.2.2.2.1, bt416.2.2.2.2.1, bt416.2.2.2.2.2.1, bt416.2.2.2.2.2.2.1, bt416.2.2.2.2.2.2.2.1, bt416.2.2.2.2.2.2.2.2.1, bt416.2.2.2.2.2.2.2.2.2)) else (some (0, 0, bt416.2.2.2.1, bt416.2.2.2.2.1, bt416.2.2.2.2.2.1, bt416.2.2.2.2.2.2.1, bt416.2.2.2.2.2.2.2.1, bt416.2.2.2.2.2.2.2.2.1, bt416.2.2.2.2.2.2.2.2.2)))))))) = some (r1, r2, r3, r4, r5, r6, r7, r8, r9) := h
 clear h
 replace H := Option.bind_eq_some_iff.mp H
 obtain ⟨⟨t391, t392, t393, t394, t395, t396, t397, t398⟩, A20, H⟩ := H
 replace H : (if t391 = true then (some (3, 0, t392, t393, t394, t395, t396, t397, t398)) else ((cursor_Cursor_Count.f k t392 t393 t394 t395 t396 t397 t398 0 1099511627776).bind fun bt399 => ((length_unit.f k bt399.2.1 bt399.2.2.1 bt399.2.2.2.1 bt399.2.2.2.2.1 bt399.2.2.2.2.2.1 bt399.2.2.2.2.2.2.1 bt399.2.2.2.2.2.2.2 bt399.1).bind fun bt407 => ((cursor_Cursor_Fault.f bt407.2.1 bt407.2.2.1 bt407.2.2.2.1 bt407.2.2.2.2.1 bt407.2.2.2.2.2.1 bt407.2.2.2.2.2.2.1 bt407.2.2.2.2.2.2.2).bind fun bt416 => (if bt416.2.2.1 = 0 then (some (bt407.1, bt399.1, bt416.2.2.2.1, bt416.2.2.2.2.1, bt416.2.2.2.2.2.1, bt416.2.2.2.2.2.2.1, bt416.2.2.2.2.2.2.2.1, bt416.2.2.2.2.2.2.2.2.1, bt416.2.2.2.2.2.2.2.2.2)) else (some (0, 0, bt416.2.2.2.1, bt416.2.2.2.2.1, bt416.2.2.2.2.2.1, bt416.2.2.2.2.2.2.1, bt416.2.2.2.2.2.2.2.1, bt416.2.2.2.2.2.2.2.2.1, bt416.2.2.2.2.2.2.2.2.2))))))) = some (r1, r2, r3, r4, r5, r6, r7, r8, r9) := H
 have A2 := Aside0.mk A20
 clear A20
 by_cases c3 : t391 = true
 ·subst c3
  have H1 : (some (3, 0, t392, t393, t394, t395, t396, t397, t398)) = some (r1, r2, r3, r4, r5, r6, r7, r8, r9) := by rw [if_pos rfl] at H; exact H
  clear H
  have H := H1
  clear H1
  simp only [Option.some.injEq, Prod.mk.injEq] at H
  obtain ⟨rfl, rfl, rfl, rfl, rfl, rfl, rfl, rfl, rfl⟩ := H
  go_enter Try.func33, Try.ntmps33
  go_wp2_with (first | ((with_reducible refine gate_dst (N := 2) rfl ?_); refine box_event ?hg (N := 2) ?hd (cs := #[.int .i64 0, .int .i64 0]) (t := 60) ?hr ?_; (case hd => rfl); (case hg => rfl); (case hr => first | (go_simp; done) | (go_simp; rfl)); intro gb390 hg w4 hbox hb; have n0_ := Aside0.mk (IsS48.below (by repeat (first | (with_reducible first | exact HI0.out | apply IsS48.alloc | apply IsS48.drewN | apply IsS48.drew | apply IsS48.set_0 | apply IsS48.set_2 | apply IsS48.set_3 | apply IsS48.set_4 | apply IsS48.set_5 | apply IsS48.set_6) | exact HI0.out)) hb); have n1_ := Aside0.mk (KeepBut.trans (by repeat (first | (with_reducible first | exact HK.out | apply KeepBut.set_ | apply keep_drewN | apply keep_drew | apply keep_alloc) | exact HK.out)) (KeepBut.of_below hb g none) (.inl rfl)); have n2_ := Aside0.mk (below_step (by repeat (first | (with_reducible first | exact HB.out | apply pw_below_drewN | refine below_set ?_ (IsS48.ge HI0.out)) | exact HB.out)) hb); have n3_ := Aside0.mk (hbox); have n4_ := Aside0.mk ((by rw [hg]; exact (keep_size (w := w) (g := g) (row := none) (by repeat (first | (with_reducible first | exact HK.out | apply KeepBut.set_ | apply keep_drewN | apply keep_drew | apply keep_alloc) | exact HK.out))) : w.heap.size ≤ gb390)); have n5_ := Aside0.mk ((Nat.le_trans HW0.out (by rw [hg]; exact (keep_size (w := w) (g := g) (row := none) (by repeat (first | (with_reducible first | exact HK.out | apply KeepBut.set_ | apply keep_drewN | apply keep_drew | apply keep_alloc) | exact HK.out))) : w.heap.size ≤ gb390) : w0.heap.size ≤ gb390)); have n6_ := Aside0.mk ((by rw [hg]; exact Nat.ne_of_lt (IsS48.lt (show IsS48 w0 _ g s0_0 s0_1 s0_2 s0_3 s0_4 s0_5 s0_6 from by repeat (first | (with_reducible first | exact HI0.out | apply IsS48.alloc | apply IsS48.drewN | apply IsS48.drew | apply IsS48.set_0 | apply IsS48.set_2 | apply IsS48.set_3 | apply IsS48.set_4 | apply IsS48.set_5 | apply IsS48.set_6) | exact HI0.out))) : g ≠ gb390)); have n7_ := Aside0.mk ((by rw [hg]; exact Nat.ne_of_gt (IsS48.lt (show IsS48 w0 _ g s0_0 s0_1 s0_2 s0_3 s0_4 s0_5 s0_6 from by repeat (first | (with_reducible first | exact HI0.out | apply IsS48.alloc | apply IsS48.drewN | apply IsS48.drew | apply IsS48.set_0 | apply IsS48.set_2 | apply IsS48.set_3 | apply IsS48.set_4 | apply IsS48.set_5 | apply IsS48.set_6) | exact HI0.out))) : gb390 ≠ g)); clear HI0 HK HB; have HI0 := n0_; have HK := n1_; have HB := n2_; have BK390 := n3_; have GW390 := n4_; have GE390 := n5_; have NB0_390 := n6_; have NB390_0 := n7_; clear n0_ n1_ n2_ n3_ n4_ n5_ n6_ n7_; clear hb hbox hg) | ((with_reducible refine gate_callee (f := 23) rfl ?_); refine goesL_ (some 8) rfl rfl Try.func23 (by kernel_rfl) rfl #[.pointer (some ⟨g, 0, none⟩), .int .i64 1, .string (⟨#[114, 101, 115, 116]⟩ : ByteArray)] rfl (by (try simp only [List.map_toArray, List.map_cons, List.map_nil]); first | done | rfl | (simp only [List.length_drop, List.length_take]; rfl)) ?_; (with_reducible refine (cursor_Cursor_Take.calls g s0_0 s0_1 s0_2 s0_3 s0_4 s0_5 s0_6 1 (⟨#[114, 101, 115, 116]⟩ : ByteArray) true t392 t393 t394 t395 t396 t397 t398 w0 _ ?side1 ?side2 A2.out).mono ?_); (case side1 => repeat (first | (with_reducible first | exact HI0.out | apply IsS48.alloc | apply IsS48.drewN | apply IsS48.drew | refine IsS48.far ?_ NB0_390.out _ | apply IsS48.set_0 | apply IsS48.set_2 | apply IsS48.set_3 | apply IsS48.set_4 | apply IsS48.set_5 | apply IsS48.set_6) | exact HI0.out)); (case side2 => repeat (first | (with_reducible first | exact HB.out | apply pw_below_drewN | refine below_set ?_ (IsS48.ge HI0.out) | refine below_set ?_ GE390.out) | exact HB.out)); rintro e w5 ⟨rfl, hi, hb, hk⟩; refine ⟨_, rfl, ?_⟩; have n0_ := Aside0.mk (KeepBut.blk hk (g' := gb390) (o := .cells #[.int .i64 0, .int .i64 0] 60 (0, 0)) (by (with_reducible repeat refine blk_drewN ?_ _); exact BK390.out) NB390_0.out (by simp)); have n1_ := Aside0.mk (KeepBut.trans (by repeat (first | (with_reducible first | exact HK.out | apply KeepBut.set_ | apply keep_drewN | apply keep_drew | apply keep_alloc | refine keep_far ?_ GW390.out _) | exact HK.out)) hk (.inl rfl)); have n2_ := Aside0.mk (hb); have n3_ := Aside0.mk (hi); clear BK390 HK HB HI0; have BK390 := n0_; have HK := n1_; have HB := n2_; have HI0 := n3_; clear n0_ n1_ n2_ n3_; (try clear hb); have hnb6 := NB390_0.out; have hnc6 := NB0_390.out; have hcz7_0 : w5.cell? ⟨gb390, 0, none⟩ = some (.int .i64 0) := (blk_cell BK390.out 0).trans rfl; have hcz7_1 : w5.cell? ⟨gb390, 1, none⟩ = some (.int .i64 0) := (blk_cell BK390.out 1).trans rfl; have hfz7_0 := blk_frozen BK390.out 0; have hfz7_1 := blk_frozen BK390.out 1))
  refine bodyPost_ret (results_cell_row rfl _ _ gb390 60 #[.int .i64 3, .int .i64 0] (0, 0) _ rfl (by (with_reducible repeat refine blk_drewN ?_ _); refine blk_put (cs := #[.int .i64 3, .int .i64 0]) ?_ 1 _ rfl; (with_reducible repeat refine blk_drewN ?_ _); refine blk_put (cs := #[.int .i64 0, .int .i64 0]) ?_ 0 _ rfl; (with_reducible repeat refine blk_drewN ?_ _); exact BK390.out) Try.underlying60 rfl (by kernel_rfl)) rfl ?_
  exact ⟨by first | rfl | (simp [*] <;> rfl), by repeat (first | (with_reducible first | exact HI0.out | apply IsS48.alloc | apply IsS48.drewN | apply IsS48.drew | refine IsS48.far ?_ NB0_390.out _ | apply IsS48.set_0 | apply IsS48.set_2 | apply IsS48.set_3 | apply IsS48.set_4 | apply IsS48.set_5 | apply IsS48.set_6) | exact HI0.out), by repeat (first | (with_reducible first | exact HB.out | apply pw_below_drewN | refine below_set ?_ (IsS48.ge HI0.out) | refine below_set ?_ GE390.out) | exact HB.out), by repeat (first | (with_reducible first | exact HK.out | apply KeepBut.set_ | apply keep_drewN | apply keep_drew | apply keep_alloc | refine keep_far ?_ GW390.out _) | exact HK.out)⟩
 ·replace c3 := Bool.eq_false_iff.mpr c3
  subst c3
  have H1 : ((cursor_Cursor_Count.f k t392 t393 t394 t395 t396 t397 t398 0 1099511627776).bind fun bt399 => ((length_unit.f k bt399.2.1 bt399.2.2.1 bt399.2.2.2.1 bt399.2.2.2.2.1 bt399.2.2.2.2.2.1 bt399.2.2.2.2.2.2.1 bt399.2.2.2.2.2.2.2 bt399.1).bind fun bt407 => ((cursor_Cursor_Fault.f bt407.2.1 bt407.2.2.1 bt407.2.2.2.1 bt407.2.2.2.2.1 bt407.2.2.2.2.2.1 bt407.2.2.2.2.2.2.1 bt407.2.2.2.2.2.2.2).bind fun bt416 => (if bt416.2.2.1 = 0 then (some (bt407.1, bt399.1, bt416.2.2.2.1, bt416.2.2.2.2.1, bt416.2.2.2.2.2.1, bt416.2.2.2.2.2.2.1, bt416.2.2.2.2.2.2.2.1, bt416.2.2.2.2.2.2.2.2.1, bt416.2.2.2.2.2.2.2.2.2)) else (some (0, 0, bt416.2.2.2.1, bt416.2.2.2.2.1, bt416.2.2.2.2.2.1, bt416.2.2.2.2.2.2.1, bt416.2.2.2.2.2.2.2.1, bt416.2.2.2.2.2.2.2.2.1, bt416.2.2.2.2.2.2.2.2.2)))))) = some (r1, r2, r3, r4, r5, r6, r7, r8, r9) := by rw [if_neg (show ¬ (false = true) by decide)] at H; exact H
  clear H
  have H := H1
  clear H1
  replace H := Option.bind_eq_some_iff.mp H
  obtain ⟨⟨t399, t400, t401, t402, t403, t404, t405, t406⟩, A80, H⟩ := H
  replace H : ((length_unit.f k t400 t401 t402 t403 t404 t405 t406 t399).bind fun bt407 => ((cursor_Cursor_Fault.f bt407.2.1 bt407.2.2.1 bt407.2.2.2.1 bt407.2.2.2.2.1 bt407.2.2.2.2.2.1 bt407.2.2.2.2.2.2.1 bt407.2.2.2.2.2.2.2).bind fun bt416 => (if bt416.2.2.1 = 0 then (some (bt407.1, t399, bt416.2.2.2.1, bt416.2.2.2.2.1, bt416.2.2.2.2.2.1, bt416.2.2.2.2.2.2.1, bt416.2.2.2.2.2.2.2.1, bt416.2.2.2.2.2.2.2.2.1, bt416.2.2.2.2.2.2.2.2.2)) else (some (0, 0, bt416.2.2.2.1, bt416.2.2.2.2.1, bt416.2.2.2.2.2.1, bt416.2.2.2.2.2.2.1, bt416.2.2.2.2.2.2.2.1, bt416.2.2.2.2.2.2.2.2.1, bt416.2.2.2.2.2.2.2.2.2))))) = some (r1, r2, r3, r4, r5, r6, r7, r8, r9) := H
  have A8 := Aside0.mk A80
  clear A80
  replace H := Option.bind_eq_some_iff.mp H
  obtain ⟨⟨t407, t408, t409, t410, t411, t412, t413, t414⟩, A90, H⟩ := H
  replace H : ((cursor_Cursor_Fault.f t408 t409 t410 t411 t412 t413 t414).bind fun bt416 => (if bt416.2.2.1 = 0 then (some (t407, t399, bt416.2.2.2.1, bt416.2.2.2.2.1, bt416.2.2.2.2.2.1, bt416.2.2.2.2.2.2.1, bt416.2.2.2.2.2.2.2.1, bt416.2.2.2.2.2.2.2.2.1, bt416.2.2.2.2.2.2.2.2.2)) else (some (0, 0, bt416.2.2.2.1, bt416.2.2.2.2.1, bt416.2.2.2.2.2.1, bt416.2.2.2.2.2.2.1, bt416.2.2.2.2.2.2.2.1, bt416.2.2.2.2.2.2.2.2.1, bt416.2.2.2.2.2.2.2.2.2)))) = some (r1, r2, r3, r4, r5, r6, r7, r8, r9) := H
  have A9 := Aside0.mk A90
  clear A90
  replace H := Option.bind_eq_some_iff.mp H
  obtain ⟨⟨t416, t417, t418, t419, t420, t421, t422, t423, t424, t425⟩, A100, H⟩ := H
  replace H : (if t418 = 0 then (some (t407, t399, t419, t420, t421, t422, t423, t424, t425)) else (some (0, 0, t419, t420, t421, t422, t423, t424, t425))) = some (r1, r2, r3, r4, r5, r6, r7, r8, r9) := H
  have A10 := Aside0.mk A100
  clear A100
  by_cases c11 : t418 = 0
  ·rw [if_pos c11] at H
   have c11b0 : (t418 == 0) = true := beq_iff_eq.mpr c11
   have c11b1 : (t418 != 0) = false := bne_eq_false_iff_eq.mpr c11
   clear c11
   simp only [Option.some.injEq, Prod.mk.injEq] at H
   obtain ⟨rfl, rfl, rfl, rfl, rfl, rfl, rfl, rfl, rfl⟩ := H
   go_enter Try.func33, Try.ntmps33
   go_wp2_with (first | ((with_reducible refine gate_dst (N := 2) rfl ?_); refine box_event ?hg (N := 2) ?hd (cs := #[.int .i64 0, .int .i64 0]) (t := 60) ?hr ?_; (case hd => rfl); (case hg => rfl); (case hr => first | (go_simp; done) | (go_simp; rfl)); intro gb390 hg w12 hbox hb; have n0_ := Aside0.mk (IsS48.below (by repeat (first | (with_reducible first | exact HI0.out | apply IsS48.alloc | apply IsS48.drewN | apply IsS48.drew | apply IsS48.set_0 | apply IsS48.set_2 | apply IsS48.set_3 | apply IsS48.set_4 | apply IsS48.set_5 | apply IsS48.set_6) | exact HI0.out)) hb); have n1_ := Aside0.mk (KeepBut.trans (by repeat (first | (with_reducible first | exact HK.out | apply KeepBut.set_ | apply keep_drewN | apply keep_drew | apply keep_alloc) | exact HK.out)) (KeepBut.of_below hb g none) (.inl rfl)); have n2_ := Aside0.mk (below_step (by repeat (first | (with_reducible first | exact HB.out | apply pw_below_drewN | refine below_set ?_ (IsS48.ge HI0.out)) | exact HB.out)) hb); have n3_ := Aside0.mk (hbox); have n4_ := Aside0.mk ((by rw [hg]; exact (keep_size (w := w) (g := g) (row := none) (by repeat (first | (with_reducible first | exact HK.out | apply KeepBut.set_ | apply keep_drewN | apply keep_drew | apply keep_alloc) | exact HK.out))) : w.heap.size ≤ gb390)); have n5_ := Aside0.mk ((Nat.le_trans HW0.out (by rw [hg]; exact (keep_size (w := w) (g := g) (row := none) (by repeat (first | (with_reducible first | exact HK.out | apply KeepBut.set_ | apply keep_drewN | apply keep_drew | apply keep_alloc) | exact HK.out))) : w.heap.size ≤ gb390) : w0.heap.size ≤ gb390)); have n6_ := Aside0.mk ((by rw [hg]; exact Nat.ne_of_lt (IsS48.lt (show IsS48 w0 _ g s0_0 s0_1 s0_2 s0_3 s0_4 s0_5 s0_6 from by repeat (first | (with_reducible first | exact HI0.out | apply IsS48.alloc | apply IsS48.drewN | apply IsS48.drew | apply IsS48.set_0 | apply IsS48.set_2 | apply IsS48.set_3 | apply IsS48.set_4 | apply IsS48.set_5 | apply IsS48.set_6) | exact HI0.out))) : g ≠ gb390)); have n7_ := Aside0.mk ((by rw [hg]; exact Nat.ne_of_gt (IsS48.lt (show IsS48 w0 _ g s0_0 s0_1 s0_2 s0_3 s0_4 s0_5 s0_6 from by repeat (first | (with_reducible first | exact HI0.out | apply IsS48.alloc | apply IsS48.drewN | apply IsS48.drew | apply IsS48.set_0 | apply IsS48.set_2 | apply IsS48.set_3 | apply IsS48.set_4 | apply IsS48.set_5 | apply IsS48.set_6) | exact HI0.out))) : gb390 ≠ g)); clear HI0 HK HB; have HI0 := n0_; have HK := n1_; have HB := n2_; have BK390 := n3_; have GW390 := n4_; have GE390 := n5_; have NB0_390 := n6_; have NB390_0 := n7_; clear n0_ n1_ n2_ n3_ n4_ n5_ n6_ n7_; clear hb hbox hg) | ((with_reducible refine gate_callee (f := 23) rfl ?_); refine goesL_ (some 8) rfl rfl Try.func23 (by kernel_rfl) rfl #[.pointer (some ⟨g, 0, none⟩), .int .i64 1, .string (⟨#[114, 101, 115, 116]⟩ : ByteArray)] rfl (by (try simp only [List.map_toArray, List.map_cons, List.map_nil]); first | done | rfl | (simp only [List.length_drop, List.length_take]; rfl)) ?_; (with_reducible refine (cursor_Cursor_Take.calls g s0_0 s0_1 s0_2 s0_3 s0_4 s0_5 s0_6 1 (⟨#[114, 101, 115, 116]⟩ : ByteArray) false t392 t393 t394 t395 t396 t397 t398 w0 _ ?side1 ?side2 A2.out).mono ?_); (case side1 => repeat (first | (with_reducible first | exact HI0.out | apply IsS48.alloc | apply IsS48.drewN | apply IsS48.drew | refine IsS48.far ?_ NB0_390.out _ | apply IsS48.set_0 | apply IsS48.set_2 | apply IsS48.set_3 | apply IsS48.set_4 | apply IsS48.set_5 | apply IsS48.set_6) | exact HI0.out)); (case side2 => repeat (first | (with_reducible first | exact HB.out | apply pw_below_drewN | refine below_set ?_ (IsS48.ge HI0.out) | refine below_set ?_ GE390.out) | exact HB.out)); rintro e w13 ⟨rfl, hi, hb, hk⟩; refine ⟨_, rfl, ?_⟩; have n0_ := Aside0.mk (KeepBut.blk hk (g' := gb390) (o := .cells #[.int .i64 0, .int .i64 0] 60 (0, 0)) (by (with_reducible repeat refine blk_drewN ?_ _); exact BK390.out) NB390_0.out (by simp)); have n1_ := Aside0.mk (KeepBut.trans (by repeat (first | (with_reducible first | exact HK.out | apply KeepBut.set_ | apply keep_drewN | apply keep_drew | apply keep_alloc | refine keep_far ?_ GW390.out _) | exact HK.out)) hk (.inl rfl)); have n2_ := Aside0.mk (hb); have n3_ := Aside0.mk (hi); clear BK390 HK HB HI0; have BK390 := n0_; have HK := n1_; have HB := n2_; have HI0 := n3_; clear n0_ n1_ n2_ n3_; (try clear hb)) | ((with_reducible refine gate_callee (f := 25) rfl ?_); refine goesL_ (some 11) rfl rfl Try.func25 (by kernel_rfl) rfl #[.pointer (some ⟨g, 0, none⟩), .int .i64 0, .int .i64 1099511627776] rfl (by (try simp only [List.map_toArray, List.map_cons, List.map_nil]); first | done | rfl | (simp only [List.length_drop, List.length_take]; rfl)) ?_; (with_reducible refine (cursor_Cursor_Count.calls k g t392 t393 t394 t395 t396 t397 t398 0 1099511627776 t399 t400 t401 t402 t403 t404 t405 t406 w0 _ ?side1 ?side2 A8.out).mono ?_); (case side1 => repeat (first | (with_reducible first | exact HI0.out | apply IsS48.alloc | apply IsS48.drewN | apply IsS48.drew | refine IsS48.far ?_ NB0_390.out _ | apply IsS48.set_0 | apply IsS48.set_2 | apply IsS48.set_3 | apply IsS48.set_4 | apply IsS48.set_5 | apply IsS48.set_6) | exact HI0.out)); (case side2 => repeat (first | (with_reducible first | exact HB.out | apply pw_below_drewN | refine below_set ?_ (IsS48.ge HI0.out) | refine below_set ?_ GE390.out) | exact HB.out)); rintro e w14 ⟨rfl, hi, hb, hk⟩; refine ⟨_, rfl, ?_⟩; have n0_ := Aside0.mk (KeepBut.blk hk (g' := gb390) (o := .cells #[.int .i64 0, .int .i64 0] 60 (0, 0)) (by (with_reducible repeat refine blk_drewN ?_ _); exact BK390.out) NB390_0.out (by simp)); have n1_ := Aside0.mk (KeepBut.trans (by repeat (first | (with_reducible first | exact HK.out | apply KeepBut.set_ | apply keep_drewN | apply keep_drew | apply keep_alloc | refine keep_far ?_ GW390.out _) | exact HK.out)) hk (.inl rfl)); have n2_ := Aside0.mk (hb); have n3_ := Aside0.mk (hi); clear BK390 HK HB HI0; have BK390 := n0_; have HK := n1_; have HB := n2_; have HI0 := n3_; clear n0_ n1_ n2_ n3_; (try clear hb)) | ((with_reducible refine gate_callee (f := 66) rfl ?_); refine goesL_ (some 14) rfl rfl Try.func66 (by kernel_rfl) rfl #[.pointer (some ⟨g, 0, none⟩), .int .i64 t399] rfl (by (try simp only [List.map_toArray, List.map_cons, List.map_nil]); first | done | rfl | (simp only [List.length_drop, List.length_take]; rfl)) ?_; (with_reducible refine (length_unit.calls k g t400 t401 t402 t403 t404 t405 t406 t399 t407 t408 t409 t410 t411 t412 t413 t414 w0 _ ?side1 ?side2 A9.out).mono ?_); (case side1 => repeat (first | (with_reducible first | exact HI0.out | apply IsS48.alloc | apply IsS48.drewN | apply IsS48.drew | refine IsS48.far ?_ NB0_390.out _ | apply IsS48.set_0 | apply IsS48.set_2 | apply IsS48.set_3 | apply IsS48.set_4 | apply IsS48.set_5 | apply IsS48.set_6) | exact HI0.out)); (case side2 => repeat (first | (with_reducible first | exact HB.out | apply pw_below_drewN | refine below_set ?_ (IsS48.ge HI0.out) | refine below_set ?_ GE390.out) | exact HB.out)); rintro e w15 ⟨rfl, hi, hb, hk⟩; refine ⟨_, rfl, ?_⟩; have n0_ := Aside0.mk (KeepBut.blk hk (g' := gb390) (o := .cells #[.int .i64 0, .int .i64 0] 60 (0, 0)) (by (with_reducible repeat refine blk_drewN ?_ _); exact BK390.out) NB390_0.out (by simp)); have n1_ := Aside0.mk (KeepBut.trans (by repeat (first | (with_reducible first | exact HK.out | apply KeepBut.set_ | apply keep_drewN | apply keep_drew | apply keep_alloc | refine keep_far ?_ GW390.out _) | exact HK.out)) hk (.inl rfl)); have n2_ := Aside0.mk (hb); have n3_ := Aside0.mk (hi); clear BK390 HK HB HI0; have BK390 := n0_; have HK := n1_; have HB := n2_; have HI0 := n3_; clear n0_ n1_ n2_ n3_; (try clear hb)) | ((with_reducible refine gate_dst (N := 4) rfl ?_); refine box_event ?hg (N := 4) ?hd (cs := #[.int .i64 0, .int .i64 0]) (t := 60) ?hr ?_; (case hd => rfl); (case hg => rfl); (case hr => first | (go_simp; done) | (go_simp; rfl)); intro gb415 hg w16 hbox hb; have n0_ := Aside0.mk (IsS48.below (by repeat (first | (with_reducible first | exact HI0.out | apply IsS48.alloc | apply IsS48.drewN | apply IsS48.drew | refine IsS48.far ?_ NB0_390.out _ | apply IsS48.set_0 | apply IsS48.set_2 | apply IsS48.set_3 | apply IsS48.set_4 | apply IsS48.set_5 | apply IsS48.set_6) | exact HI0.out)) hb); have n1_ := Aside0.mk (blk_below (g := gb390) (by exact BK390.out) hb); have n2_ := Aside0.mk (KeepBut.trans (by repeat (first | (with_reducible first | exact HK.out | apply KeepBut.set_ | apply keep_drewN | apply keep_drew | apply keep_alloc | refine keep_far ?_ GW390.out _) | exact HK.out)) (KeepBut.of_below hb g none) (.inl rfl)); have n3_ := Aside0.mk (below_step (by repeat (first | (with_reducible first | exact HB.out | apply pw_below_drewN | refine below_set ?_ (IsS48.ge HI0.out) | refine below_set ?_ GE390.out) | exact HB.out)) hb); have n4_ := Aside0.mk (hbox); have n5_ := Aside0.mk ((by rw [hg]; exact (keep_size (w := w) (g := g) (row := none) (by repeat (first | (with_reducible first | exact HK.out | apply KeepBut.set_ | apply keep_drewN | apply keep_drew | apply keep_alloc | refine keep_far ?_ GW390.out _) | exact HK.out))) : w.heap.size ≤ gb415)); have n6_ := Aside0.mk ((Nat.le_trans HW0.out (by rw [hg]; exact (keep_size (w := w) (g := g) (row := none) (by repeat (first | (with_reducible first | exact HK.out | apply KeepBut.set_ | apply keep_drewN | apply keep_drew | apply keep_alloc | refine keep_far ?_ GW390.out _) | exact HK.out))) : w.heap.size ≤ gb415) : w0.heap.size ≤ gb415)); have n7_ := Aside0.mk ((by rw [hg]; exact Nat.ne_of_lt (blk_lt (g := gb390) (o := .cells #[.int .i64 0, .int .i64 0] 60 (0, 0)) (by (with_reducible repeat refine blk_drewN ?_ _); exact BK390.out)) : gb390 ≠ gb415)); have n8_ := Aside0.mk ((by rw [hg]; exact Nat.ne_of_gt (blk_lt (g := gb390) (o := .cells #[.int .i64 0, .int .i64 0] 60 (0, 0)) (by (with_reducible repeat refine blk_drewN ?_ _); exact BK390.out)) : gb415 ≠ gb390)); have n9_ := Aside0.mk ((by rw [hg]; exact Nat.ne_of_lt (IsS48.lt (show IsS48 w0 _ g t408 t409 t410 t411 t412 t413 t414 from by repeat (first | (with_reducible first | exact HI0.out | apply IsS48.alloc | apply IsS48.drewN | apply IsS48.drew | refine IsS48.far ?_ NB0_390.out _ | apply IsS48.set_0 | apply IsS48.set_2 | apply IsS48.set_3 | apply IsS48.set_4 | apply IsS48.set_5 | apply IsS48.set_6) | exact HI0.out))) : g ≠ gb415)); have n10_ := Aside0.mk ((by rw [hg]; exact Nat.ne_of_gt (IsS48.lt (show IsS48 w0 _ g t408 t409 t410 t411 t412 t413 t414 from by repeat (first | (with_reducible first | exact HI0.out | apply IsS48.alloc | apply IsS48.drewN | apply IsS48.drew | refine IsS48.far ?_ NB0_390.out _ | apply IsS48.set_0 | apply IsS48.set_2 | apply IsS48.set_3 | apply IsS48.set_4 | apply IsS48.set_5 | apply IsS48.set_6) | exact HI0.out))) : gb415 ≠ g)); clear HI0 BK390 HK HB; have HI0 := n0_; have BK390 := n1_; have HK := n2_; have HB := n3_; have BK415 := n4_; have GW415 := n5_; have GE415 := n6_; have NB390_415 := n7_; have NB415_390 := n8_; have NB0_415 := n9_; have NB415_0 := n10_; clear n0_ n1_ n2_ n3_ n4_ n5_ n6_ n7_ n8_ n9_ n10_; clear hb hbox hg; have hnb17 := NB415_390.out; have hnc17 := NB390_415.out; have hnb18 := NB415_0.out; have hnc18 := NB0_415.out; have hcz19_0 : w16.cell? ⟨gb415, 0, none⟩ = some (.int .i64 0) := (blk_cell BK415.out 0).trans rfl; have hcz19_1 : w16.cell? ⟨gb415, 1, none⟩ = some (.int .i64 0) := (blk_cell BK415.out 1).trans rfl; have hfz19_0 := blk_frozen BK415.out 0; have hfz19_1 := blk_frozen BK415.out 1) | ((with_reducible refine gate_callee (f := 21) rfl ?_); refine goesL_ (some 19) rfl rfl Try.func21 (by kernel_rfl) rfl #[.pointer (some ⟨g, 0, none⟩)] rfl (by (try simp only [List.map_toArray, List.map_cons, List.map_nil]); first | done | rfl | (simp only [List.length_drop, List.length_take]; rfl)) ?_; (with_reducible refine (cursor_Cursor_Fault.calls g t408 t409 t410 t411 t412 t413 t414 t416 t417 t418 t419 t420 t421 t422 t423 t424 t425 w0 _ ?side1 ?side2 A10.out).mono ?_); (case side1 => repeat (first | (with_reducible first | exact HI0.out | apply IsS48.alloc | apply IsS48.drewN | apply IsS48.drew | refine IsS48.far ?_ NB0_390.out _ | refine IsS48.far ?_ NB0_415.out _ | apply IsS48.set_0 | apply IsS48.set_2 | apply IsS48.set_3 | apply IsS48.set_4 | apply IsS48.set_5 | apply IsS48.set_6) | exact HI0.out)); (case side2 => repeat (first | (with_reducible first | exact HB.out | apply pw_below_drewN | refine below_set ?_ (IsS48.ge HI0.out) | refine below_set ?_ GE390.out | refine below_set ?_ GE415.out) | exact HB.out)); rintro e w20 ⟨rfl, hi, hb, hk⟩; refine ⟨_, rfl, ?_⟩; have n0_ := Aside0.mk (KeepBut.blk hk (g' := gb390) (o := .cells #[.int .i64 0, .int .i64 0] 60 (0, 0)) (by (with_reducible repeat refine blk_drewN ?_ _); refine blk_far ?_ NB390_415.out _; (with_reducible repeat refine blk_drewN ?_ _); refine blk_far ?_ NB390_415.out _; (with_reducible repeat refine blk_drewN ?_ _); exact BK390.out) NB390_0.out (by simp)); have n1_ := Aside0.mk (KeepBut.blk hk (g' := gb415) (o := .cells #[.int .i64 t407, .int .i64 t399] 60 (0, 0)) (by (with_reducible repeat refine blk_drewN ?_ _); refine blk_put (cs := #[.int .i64 t407, .int .i64 0]) ?_ 1 _ rfl; (with_reducible repeat refine blk_drewN ?_ _); refine blk_put (cs := #[.int .i64 0, .int .i64 0]) ?_ 0 _ rfl; (with_reducible repeat refine blk_drewN ?_ _); exact BK415.out) NB415_0.out (by simp)); have n2_ := Aside0.mk (KeepBut.trans (by repeat (first | (with_reducible first | exact HK.out | apply KeepBut.set_ | apply keep_drewN | apply keep_drew | apply keep_alloc | refine keep_far ?_ GW390.out _ | refine keep_far ?_ GW415.out _) | exact HK.out)) hk (.inl rfl)); have n3_ := Aside0.mk (hb); have n4_ := Aside0.mk (hi); clear BK390 BK415 HK HB HI0; have BK390 := n0_; have BK415 := n1_; have HK := n2_; have HB := n3_; have HI0 := n4_; clear n0_ n1_ n2_ n3_ n4_; (try clear hb)) | ((with_reducible refine gate_dst (N := 5) rfl ?_); refine box_event ?hg (N := 5) ?hd (cs := #[.int .i64 0, .int .i64 0]) (t := 25) ?hr ?_; (case hd => rfl); (case hg => rfl); (case hr => first | (go_simp; done) | (go_simp; rfl)); intro gb426 hg w21 hbox hb; have n0_ := Aside0.mk (IsS48.below (by repeat (first | (with_reducible first | exact HI0.out | apply IsS48.alloc | apply IsS48.drewN | apply IsS48.drew | refine IsS48.far ?_ NB0_390.out _ | refine IsS48.far ?_ NB0_415.out _ | apply IsS48.set_0 | apply IsS48.set_2 | apply IsS48.set_3 | apply IsS48.set_4 | apply IsS48.set_5 | apply IsS48.set_6) | exact HI0.out)) hb); have n1_ := Aside0.mk (blk_below (g := gb390) (by exact BK390.out) hb); have n2_ := Aside0.mk (blk_below (g := gb415) (by exact BK415.out) hb); have n3_ := Aside0.mk (KeepBut.trans (by repeat (first | (with_reducible first | exact HK.out | apply KeepBut.set_ | apply keep_drewN | apply keep_drew | apply keep_alloc | refine keep_far ?_ GW390.out _ | refine keep_far ?_ GW415.out _) | exact HK.out)) (KeepBut.of_below hb g none) (.inl rfl)); have n4_ := Aside0.mk (below_step (by repeat (first | (with_reducible first | exact HB.out | apply pw_below_drewN | refine below_set ?_ (IsS48.ge HI0.out) | refine below_set ?_ GE390.out | refine below_set ?_ GE415.out) | exact HB.out)) hb); have n5_ := Aside0.mk (hbox); have n6_ := Aside0.mk ((by rw [hg]; exact (keep_size (w := w) (g := g) (row := none) (by repeat (first | (with_reducible first | exact HK.out | apply KeepBut.set_ | apply keep_drewN | apply keep_drew | apply keep_alloc | refine keep_far ?_ GW390.out _ | refine keep_far ?_ GW415.out _) | exact HK.out))) : w.heap.size ≤ gb426)); have n7_ := Aside0.mk ((Nat.le_trans HW0.out (by rw [hg]; exact (keep_size (w := w) (g := g) (row := none) (by repeat (first | (with_reducible first | exact HK.out | apply KeepBut.set_ | apply keep_drewN | apply keep_drew | apply keep_alloc | refine keep_far ?_ GW390.out _ | refine keep_far ?_ GW415.out _) | exact HK.out))) : w.heap.size ≤ gb426) : w0.heap.size ≤ gb426)); have n8_ := Aside0.mk ((by rw [hg]; exact Nat.ne_of_lt (blk_lt (g := gb390) (o := .cells #[.int .i64 0, .int .i64 0] 60 (0, 0)) (by (with_reducible repeat refine blk_drewN ?_ _); exact BK390.out)) : gb390 ≠ gb426)); have n9_ := Aside0.mk ((by rw [hg]; exact Nat.ne_of_gt (blk_lt (g := gb390) (o := .cells #[.int .i64 0, .int .i64 0] 60 (0, 0)) (by (with_reducible repeat refine blk_drewN ?_ _); exact BK390.out)) : gb426 ≠ gb390)); have n10_ := Aside0.mk ((by rw [hg]; exact Nat.ne_of_lt (blk_lt (g := gb415) (o := .cells #[.int .i64 t407, .int .i64 t399] 60 (0, 0)) (by (with_reducible repeat refine blk_drewN ?_ _); exact BK415.out)) : gb415 ≠ gb426)); have n11_ := Aside0.mk ((by rw [hg]; exact Nat.ne_of_gt (blk_lt (g := gb415) (o := .cells #[.int .i64 t407, .int .i64 t399] 60 (0, 0)) (by (with_reducible repeat refine blk_drewN ?_ _); exact BK415.out)) : gb426 ≠ gb415)); have n12_ := Aside0.mk ((by rw [hg]; exact Nat.ne_of_lt (IsS48.lt (show IsS48 w0 _ g t419 t420 t421 t422 t423 t424 t425 from by repeat (first | (with_reducible first | exact HI0.out | apply IsS48.alloc | apply IsS48.drewN | apply IsS48.drew | refine IsS48.far ?_ NB0_390.out _ | refine IsS48.far ?_ NB0_415.out _ | apply IsS48.set_0 | apply IsS48.set_2 | apply IsS48.set_3 | apply IsS48.set_4 | apply IsS48.set_5 | apply IsS48.set_6) | exact HI0.out))) : g ≠ gb426)); have n13_ := Aside0.mk ((by rw [hg]; exact Nat.ne_of_gt (IsS48.lt (show IsS48 w0 _ g t419 t420 t421 t422 t423 t424 t425 from by repeat (first | (with_reducible first | exact HI0.out | apply IsS48.alloc | apply IsS48.drewN | apply IsS48.drew | refine IsS48.far ?_ NB0_390.out _ | refine IsS48.far ?_ NB0_415.out _ | apply IsS48.set_0 | apply IsS48.set_2 | apply IsS48.set_3 | apply IsS48.set_4 | apply IsS48.set_5 | apply IsS48.set_6) | exact HI0.out))) : gb426 ≠ g)); clear HI0 BK390 BK415 HK HB; have HI0 := n0_; have BK390 := n1_; have BK415 := n2_; have HK := n3_; have HB := n4_; have BK426 := n5_; have GW426 := n6_; have GE426 := n7_; have NB390_426 := n8_; have NB426_390 := n9_; have NB415_426 := n10_; have NB426_415 := n11_; have NB0_426 := n12_; have NB426_0 := n13_; clear n0_ n1_ n2_ n3_ n4_ n5_ n6_ n7_ n8_ n9_ n10_ n11_ n12_ n13_; clear hb hbox hg; have hnb22 := NB426_390.out; have hnc22 := NB390_426.out; have hnb23 := NB426_415.out; have hnc23 := NB415_426.out; have hnb24 := NB426_0.out; have hnc24 := NB0_426.out; have hcz25_0 : w21.cell? ⟨gb426, 0, none⟩ = some (.int .i64 0) := (blk_cell BK426.out 0).trans rfl; have hcz25_1 : w21.cell? ⟨gb426, 1, none⟩ = some (.int .i64 0) := (blk_cell BK426.out 1).trans rfl; have hfz25_0 := blk_frozen BK426.out 0; have hfz25_1 := blk_frozen BK426.out 1; have hcz26_0 : w21.cell? ⟨gb415, 0, none⟩ = some (.int .i64 t407) := (blk_cell BK415.out 0).trans rfl; have hcz26_1 : w21.cell? ⟨gb415, 1, none⟩ = some (.int .i64 t399) := (blk_cell BK415.out 1).trans rfl; have hfz26_0 := blk_frozen BK415.out 0; have hfz26_1 := blk_frozen BK415.out 1; have hnb27 := NB390_0.out; have hnc27 := NB0_390.out; have hcz28_0 : w21.cell? ⟨gb390, 0, none⟩ = some (.int .i64 0) := (blk_cell BK390.out 0).trans rfl; have hcz28_1 : w21.cell? ⟨gb390, 1, none⟩ = some (.int .i64 0) := (blk_cell BK390.out 1).trans rfl; have hfz28_0 := blk_frozen BK390.out 0; have hfz28_1 := blk_frozen BK390.out 1))
   refine bodyPost_ret (results_cell_row rfl _ _ gb390 60 #[.int .i64 t407, .int .i64 t399] (0, 0) _ rfl (by (with_reducible repeat refine blk_drewN ?_ _); refine blk_put (cs := #[.int .i64 t407, .int .i64 0]) ?_ 1 _ rfl; (with_reducible repeat refine blk_drewN ?_ _); refine blk_put (cs := #[.int .i64 0, .int .i64 0]) ?_ 0 _ rfl; (with_reducible repeat refine blk_drewN ?_ _); refine blk_far ?_ NB390_426.out _; (with_reducible repeat refine blk_drewN ?_ _); refine blk_far ?_ NB390_426.out _; (with_reducible repeat refine blk_drewN ?_ _); exact BK390.out) Try.underlying60 rfl (by kernel_rfl)) rfl ?_
   exact ⟨by first | rfl | (simp [*] <;> rfl), by repeat (first | (with_reducible first | exact HI0.out | apply IsS48.alloc | apply IsS48.drewN | apply IsS48.drew | refine IsS48.far ?_ NB0_390.out _ | refine IsS48.far ?_ NB0_415.out _ | refine IsS48.far ?_ NB0_426.out _ | apply IsS48.set_0 | apply IsS48.set_2 | apply IsS48.set_3 | apply IsS48.set_4 | apply IsS48.set_5 | apply IsS48.set_6) | exact HI0.out), by repeat (first | (with_reducible first | exact HB.out | apply pw_below_drewN | refine below_set ?_ (IsS48.ge HI0.out) | refine below_set ?_ GE390.out | refine below_set ?_ GE415.out | refine below_set ?_ GE426.out) | exact HB.out), by repeat (first | (with_reducible first | exact HK.out | apply KeepBut.set_ | apply keep_drewN | apply keep_drew | apply keep_alloc | refine keep_far ?_ GW390.out _ | refine keep_far ?_ GW415.out _ | refine keep_far ?_ GW426.out _) | exact HK.out)⟩
  ·rw [if_neg c11] at H
   have c11b0 : (t418 == 0) = false := beq_eq_false_iff_ne.mpr c11
   have c11b1 : (t418 != 0) = true := bne_iff_ne.mpr c11
   simp only [Option.some.injEq, Prod.mk.injEq] at H
   obtain ⟨rfl, rfl, rfl, rfl, rfl, rfl, rfl, rfl, rfl⟩ := H
   go_enter Try.func33, Try.ntmps33
   go_wp2_with (first | ((with_reducible refine gate_dst (N := 2) rfl ?_); refine box_event ?hg (N := 2) ?hd (cs := #[.int .i64 0, .int .i64 0]) (t := 60) ?hr ?_; (case hd => rfl); (case hg => rfl); (case hr => first | (go_simp; done) | (go_simp; rfl)); intro gb390 hg w29 hbox hb; have n0_ := Aside0.mk (IsS48.below (by repeat (first | (with_reducible first | exact HI0.out | apply IsS48.alloc | apply IsS48.drewN | apply IsS48.drew | apply IsS48.set_0 | apply IsS48.set_2 | apply IsS48.set_3 | apply IsS48.set_4 | apply IsS48.set_5 | apply IsS48.set_6) | exact HI0.out)) hb); have n1_ := Aside0.mk (KeepBut.trans (by repeat (first | (with_reducible first | exact HK.out | apply KeepBut.set_ | apply keep_drewN | apply keep_drew | apply keep_alloc) | exact HK.out)) (KeepBut.of_below hb g none) (.inl rfl)); have n2_ := Aside0.mk (below_step (by repeat (first | (with_reducible first | exact HB.out | apply pw_below_drewN | refine below_set ?_ (IsS48.ge HI0.out)) | exact HB.out)) hb); have n3_ := Aside0.mk (hbox); have n4_ := Aside0.mk ((by rw [hg]; exact (keep_size (w := w) (g := g) (row := none) (by repeat (first | (with_reducible first | exact HK.out | apply KeepBut.set_ | apply keep_drewN | apply keep_drew | apply keep_alloc) | exact HK.out))) : w.heap.size ≤ gb390)); have n5_ := Aside0.mk ((Nat.le_trans HW0.out (by rw [hg]; exact (keep_size (w := w) (g := g) (row := none) (by repeat (first | (with_reducible first | exact HK.out | apply KeepBut.set_ | apply keep_drewN | apply keep_drew | apply keep_alloc) | exact HK.out))) : w.heap.size ≤ gb390) : w0.heap.size ≤ gb390)); have n6_ := Aside0.mk ((by rw [hg]; exact Nat.ne_of_lt (IsS48.lt (show IsS48 w0 _ g s0_0 s0_1 s0_2 s0_3 s0_4 s0_5 s0_6 from by repeat (first | (with_reducible first | exact HI0.out | apply IsS48.alloc | apply IsS48.drewN | apply IsS48.drew | apply IsS48.set_0 | apply IsS48.set_2 | apply IsS48.set_3 | apply IsS48.set_4 | apply IsS48.set_5 | apply IsS48.set_6) | exact HI0.out))) : g ≠ gb390)); have n7_ := Aside0.mk ((by rw [hg]; exact Nat.ne_of_gt (IsS48.lt (show IsS48 w0 _ g s0_0 s0_1 s0_2 s0_3 s0_4 s0_5 s0_6 from by repeat (first | (with_reducible first | exact HI0.out | apply IsS48.alloc | apply IsS48.drewN | apply IsS48.drew | apply IsS48.set_0 | apply IsS48.set_2 | apply IsS48.set_3 | apply IsS48.set_4 | apply IsS48.set_5 | apply IsS48.set_6) | exact HI0.out))) : gb390 ≠ g)); clear HI0 HK HB; have HI0 := n0_; have HK := n1_; have HB := n2_; have BK390 := n3_; have GW390 := n4_; have GE390 := n5_; have NB0_390 := n6_; have NB390_0 := n7_; clear n0_ n1_ n2_ n3_ n4_ n5_ n6_ n7_; clear hb hbox hg) | ((with_reducible refine gate_callee (f := 23) rfl ?_); refine goesL_ (some 8) rfl rfl Try.func23 (by kernel_rfl) rfl #[.pointer (some ⟨g, 0, none⟩), .int .i64 1, .string (⟨#[114, 101, 115, 116]⟩ : ByteArray)] rfl (by (try simp only [List.map_toArray, List.map_cons, List.map_nil]); first | done | rfl | (simp only [List.length_drop, List.length_take]; rfl)) ?_; (with_reducible refine (cursor_Cursor_Take.calls g s0_0 s0_1 s0_2 s0_3 s0_4 s0_5 s0_6 1 (⟨#[114, 101, 115, 116]⟩ : ByteArray) false t392 t393 t394 t395 t396 t397 t398 w0 _ ?side1 ?side2 A2.out).mono ?_); (case side1 => repeat (first | (with_reducible first | exact HI0.out | apply IsS48.alloc | apply IsS48.drewN | apply IsS48.drew | refine IsS48.far ?_ NB0_390.out _ | apply IsS48.set_0 | apply IsS48.set_2 | apply IsS48.set_3 | apply IsS48.set_4 | apply IsS48.set_5 | apply IsS48.set_6) | exact HI0.out)); (case side2 => repeat (first | (with_reducible first | exact HB.out | apply pw_below_drewN | refine below_set ?_ (IsS48.ge HI0.out) | refine below_set ?_ GE390.out) | exact HB.out)); rintro e w30 ⟨rfl, hi, hb, hk⟩; refine ⟨_, rfl, ?_⟩; have n0_ := Aside0.mk (KeepBut.blk hk (g' := gb390) (o := .cells #[.int .i64 0, .int .i64 0] 60 (0, 0)) (by (with_reducible repeat refine blk_drewN ?_ _); exact BK390.out) NB390_0.out (by simp)); have n1_ := Aside0.mk (KeepBut.trans (by repeat (first | (with_reducible first | exact HK.out | apply KeepBut.set_ | apply keep_drewN | apply keep_drew | apply keep_alloc | refine keep_far ?_ GW390.out _) | exact HK.out)) hk (.inl rfl)); have n2_ := Aside0.mk (hb); have n3_ := Aside0.mk (hi); clear BK390 HK HB HI0; have BK390 := n0_; have HK := n1_; have HB := n2_; have HI0 := n3_; clear n0_ n1_ n2_ n3_; (try clear hb)) | ((with_reducible refine gate_callee (f := 25) rfl ?_); refine goesL_ (some 11) rfl rfl Try.func25 (by kernel_rfl) rfl #[.pointer (some ⟨g, 0, none⟩), .int .i64 0, .int .i64 1099511627776] rfl (by (try simp only [List.map_toArray, List.map_cons, List.map_nil]); first | done | rfl | (simp only [List.length_drop, List.length_take]; rfl)) ?_; (with_reducible refine (cursor_Cursor_Count.calls k g t392 t393 t394 t395 t396 t397 t398 0 1099511627776 t399 t400 t401 t402 t403 t404 t405 t406 w0 _ ?side1 ?side2 A8.out).mono ?_); (case side1 => repeat (first | (with_reducible first | exact HI0.out | apply IsS48.alloc | apply IsS48.drewN | apply IsS48.drew | refine IsS48.far ?_ NB0_390.out _ | apply IsS48.set_0 | apply IsS48.set_2 | apply IsS48.set_3 | apply IsS48.set_4 | apply IsS48.set_5 | apply IsS48.set_6) | exact HI0.out)); (case side2 => repeat (first | (with_reducible first | exact HB.out | apply pw_below_drewN | refine below_set ?_ (IsS48.ge HI0.out) | refine below_set ?_ GE390.out) | exact HB.out)); rintro e w31 ⟨rfl, hi, hb, hk⟩; refine ⟨_, rfl, ?_⟩; have n0_ := Aside0.mk (KeepBut.blk hk (g' := gb390) (o := .cells #[.int .i64 0, .int .i64 0] 60 (0, 0)) (by (with_reducible repeat refine blk_drewN ?_ _); exact BK390.out) NB390_0.out (by simp)); have n1_ := Aside0.mk (KeepBut.trans (by repeat (first | (with_reducible first | exact HK.out | apply KeepBut.set_ | apply keep_drewN | apply keep_drew | apply keep_alloc | refine keep_far ?_ GW390.out _) | exact HK.out)) hk (.inl rfl)); have n2_ := Aside0.mk (hb); have n3_ := Aside0.mk (hi); clear BK390 HK HB HI0; have BK390 := n0_; have HK := n1_; have HB := n2_; have HI0 := n3_; clear n0_ n1_ n2_ n3_; (try clear hb)) | ((with_reducible refine gate_callee (f := 66) rfl ?_); refine goesL_ (some 14) rfl rfl Try.func66 (by kernel_rfl) rfl #[.pointer (some ⟨g, 0, none⟩), .int .i64 t399] rfl (by (try simp only [List.map_toArray, List.map_cons, List.map_nil]); first | done | rfl | (simp only [List.length_drop, List.length_take]; rfl)) ?_; (with_reducible refine (length_unit.calls k g t400 t401 t402 t403 t404 t405 t406 t399 t407 t408 t409 t410 t411 t412 t413 t414 w0 _ ?side1 ?side2 A9.out).mono ?_); (case side1 => repeat (first | (with_reducible first | exact HI0.out | apply IsS48.alloc | apply IsS48.drewN | apply IsS48.drew | refine IsS48.far ?_ NB0_390.out _ | apply IsS48.set_0 | apply IsS48.set_2 | apply IsS48.set_3 | apply IsS48.set_4 | apply IsS48.set_5 | apply IsS48.set_6) | exact HI0.out)); (case side2 => repeat (first | (with_reducible first | exact HB.out | apply pw_below_drewN | refine below_set ?_ (IsS48.ge HI0.out) | refine below_set ?_ GE390.out) | exact HB.out)); rintro e w32 ⟨rfl, hi, hb, hk⟩; refine ⟨_, rfl, ?_⟩; have n0_ := Aside0.mk (KeepBut.blk hk (g' := gb390) (o := .cells #[.int .i64 0, .int .i64 0] 60 (0, 0)) (by (with_reducible repeat refine blk_drewN ?_ _); exact BK390.out) NB390_0.out (by simp)); have n1_ := Aside0.mk (KeepBut.trans (by repeat (first | (with_reducible first | exact HK.out | apply KeepBut.set_ | apply keep_drewN | apply keep_drew | apply keep_alloc | refine keep_far ?_ GW390.out _) | exact HK.out)) hk (.inl rfl)); have n2_ := Aside0.mk (hb); have n3_ := Aside0.mk (hi); clear BK390 HK HB HI0; have BK390 := n0_; have HK := n1_; have HB := n2_; have HI0 := n3_; clear n0_ n1_ n2_ n3_; (try clear hb)) | ((with_reducible refine gate_dst (N := 4) rfl ?_); refine box_event ?hg (N := 4) ?hd (cs := #[.int .i64 0, .int .i64 0]) (t := 60) ?hr ?_; (case hd => rfl); (case hg => rfl); (case hr => first | (go_simp; done) | (go_simp; rfl)); intro gb415 hg w33 hbox hb; have n0_ := Aside0.mk (IsS48.below (by repeat (first | (with_reducible first | exact HI0.out | apply IsS48.alloc | apply IsS48.drewN | apply IsS48.drew | refine IsS48.far ?_ NB0_390.out _ | apply IsS48.set_0 | apply IsS48.set_2 | apply IsS48.set_3 | apply IsS48.set_4 | apply IsS48.set_5 | apply IsS48.set_6) | exact HI0.out)) hb); have n1_ := Aside0.mk (blk_below (g := gb390) (by exact BK390.out) hb); have n2_ := Aside0.mk (KeepBut.trans (by repeat (first | (with_reducible first | exact HK.out | apply KeepBut.set_ | apply keep_drewN | apply keep_drew | apply keep_alloc | refine keep_far ?_ GW390.out _) | exact HK.out)) (KeepBut.of_below hb g none) (.inl rfl)); have n3_ := Aside0.mk (below_step (by repeat (first | (with_reducible first | exact HB.out | apply pw_below_drewN | refine below_set ?_ (IsS48.ge HI0.out) | refine below_set ?_ GE390.out) | exact HB.out)) hb); have n4_ := Aside0.mk (hbox); have n5_ := Aside0.mk ((by rw [hg]; exact (keep_size (w := w) (g := g) (row := none) (by repeat (first | (with_reducible first | exact HK.out | apply KeepBut.set_ | apply keep_drewN | apply keep_drew | apply keep_alloc | refine keep_far ?_ GW390.out _) | exact HK.out))) : w.heap.size ≤ gb415)); have n6_ := Aside0.mk ((Nat.le_trans HW0.out (by rw [hg]; exact (keep_size (w := w) (g := g) (row := none) (by repeat (first | (with_reducible first | exact HK.out | apply KeepBut.set_ | apply keep_drewN | apply keep_drew | apply keep_alloc | refine keep_far ?_ GW390.out _) | exact HK.out))) : w.heap.size ≤ gb415) : w0.heap.size ≤ gb415)); have n7_ := Aside0.mk ((by rw [hg]; exact Nat.ne_of_lt (blk_lt (g := gb390) (o := .cells #[.int .i64 0, .int .i64 0] 60 (0, 0)) (by (with_reducible repeat refine blk_drewN ?_ _); exact BK390.out)) : gb390 ≠ gb415)); have n8_ := Aside0.mk ((by rw [hg]; exact Nat.ne_of_gt (blk_lt (g := gb390) (o := .cells #[.int .i64 0, .int .i64 0] 60 (0, 0)) (by (with_reducible repeat refine blk_drewN ?_ _); exact BK390.out)) : gb415 ≠ gb390)); have n9_ := Aside0.mk ((by rw [hg]; exact Nat.ne_of_lt (IsS48.lt (show IsS48 w0 _ g t408 t409 t410 t411 t412 t413 t414 from by repeat (first | (with_reducible first | exact HI0.out | apply IsS48.alloc | apply IsS48.drewN | apply IsS48.drew | refine IsS48.far ?_ NB0_390.out _ | apply IsS48.set_0 | apply IsS48.set_2 | apply IsS48.set_3 | apply IsS48.set_4 | apply IsS48.set_5 | apply IsS48.set_6) | exact HI0.out))) : g ≠ gb415)); have n10_ := Aside0.mk ((by rw [hg]; exact Nat.ne_of_gt (IsS48.lt (show IsS48 w0 _ g t408 t409 t410 t411 t412 t413 t414 from by repeat (first | (with_reducible first | exact HI0.out | apply IsS48.alloc | apply IsS48.drewN | apply IsS48.drew | refine IsS48.far ?_ NB0_390.out _ | apply IsS48.set_0 | apply IsS48.set_2 | apply IsS48.set_3 | apply IsS48.set_4 | apply IsS48.set_5 | apply IsS48.set_6) | exact HI0.out))) : gb415 ≠ g)); clear HI0 BK390 HK HB; have HI0 := n0_; have BK390 := n1_; have HK := n2_; have HB := n3_; have BK415 := n4_; have GW415 := n5_; have GE415 := n6_; have NB390_415 := n7_; have NB415_390 := n8_; have NB0_415 := n9_; have NB415_0 := n10_; clear n0_ n1_ n2_ n3_ n4_ n5_ n6_ n7_ n8_ n9_ n10_; clear hb hbox hg; have hnb34 := NB415_390.out; have hnc34 := NB390_415.out; have hnb35 := NB415_0.out; have hnc35 := NB0_415.out; have hcz36_0 : w33.cell? ⟨gb415, 0, none⟩ = some (.int .i64 0) := (blk_cell BK415.out 0).trans rfl; have hcz36_1 : w33.cell? ⟨gb415, 1, none⟩ = some (.int .i64 0) := (blk_cell BK415.out 1).trans rfl; have hfz36_0 := blk_frozen BK415.out 0; have hfz36_1 := blk_frozen BK415.out 1) | ((with_reducible refine gate_callee (f := 21) rfl ?_); refine goesL_ (some 19) rfl rfl Try.func21 (by kernel_rfl) rfl #[.pointer (some ⟨g, 0, none⟩)] rfl (by (try simp only [List.map_toArray, List.map_cons, List.map_nil]); first | done | rfl | (simp only [List.length_drop, List.length_take]; rfl)) ?_; (with_reducible refine (cursor_Cursor_Fault.calls g t408 t409 t410 t411 t412 t413 t414 t416 t417 t418 t419 t420 t421 t422 t423 t424 t425 w0 _ ?side1 ?side2 A10.out).mono ?_); (case side1 => repeat (first | (with_reducible first | exact HI0.out | apply IsS48.alloc | apply IsS48.drewN | apply IsS48.drew | refine IsS48.far ?_ NB0_390.out _ | refine IsS48.far ?_ NB0_415.out _ | apply IsS48.set_0 | apply IsS48.set_2 | apply IsS48.set_3 | apply IsS48.set_4 | apply IsS48.set_5 | apply IsS48.set_6) | exact HI0.out)); (case side2 => repeat (first | (with_reducible first | exact HB.out | apply pw_below_drewN | refine below_set ?_ (IsS48.ge HI0.out) | refine below_set ?_ GE390.out | refine below_set ?_ GE415.out) | exact HB.out)); rintro e w37 ⟨rfl, hi, hb, hk⟩; refine ⟨_, rfl, ?_⟩; have n0_ := Aside0.mk (KeepBut.blk hk (g' := gb390) (o := .cells #[.int .i64 0, .int .i64 0] 60 (0, 0)) (by (with_reducible repeat refine blk_drewN ?_ _); refine blk_far ?_ NB390_415.out _; (with_reducible repeat refine blk_drewN ?_ _); refine blk_far ?_ NB390_415.out _; (with_reducible repeat refine blk_drewN ?_ _); exact BK390.out) NB390_0.out (by simp)); have n1_ := Aside0.mk (KeepBut.blk hk (g' := gb415) (o := .cells #[.int .i64 t407, .int .i64 t399] 60 (0, 0)) (by (with_reducible repeat refine blk_drewN ?_ _); refine blk_put (cs := #[.int .i64 t407, .int .i64 0]) ?_ 1 _ rfl; (with_reducible repeat refine blk_drewN ?_ _); refine blk_put (cs := #[.int .i64 0, .int .i64 0]) ?_ 0 _ rfl; (with_reducible repeat refine blk_drewN ?_ _); exact BK415.out) NB415_0.out (by simp)); have n2_ := Aside0.mk (KeepBut.trans (by repeat (first | (with_reducible first | exact HK.out | apply KeepBut.set_ | apply keep_drewN | apply keep_drew | apply keep_alloc | refine keep_far ?_ GW390.out _ | refine keep_far ?_ GW415.out _) | exact HK.out)) hk (.inl rfl)); have n3_ := Aside0.mk (hb); have n4_ := Aside0.mk (hi); clear BK390 BK415 HK HB HI0; have BK390 := n0_; have BK415 := n1_; have HK := n2_; have HB := n3_; have HI0 := n4_; clear n0_ n1_ n2_ n3_ n4_; (try clear hb)) | ((with_reducible refine gate_dst (N := 5) rfl ?_); refine box_event ?hg (N := 5) ?hd (cs := #[.int .i64 0, .int .i64 0]) (t := 25) ?hr ?_; (case hd => rfl); (case hg => rfl); (case hr => first | (go_simp; done) | (go_simp; rfl)); intro gb426 hg w38 hbox hb; have n0_ := Aside0.mk (IsS48.below (by repeat (first | (with_reducible first | exact HI0.out | apply IsS48.alloc | apply IsS48.drewN | apply IsS48.drew | refine IsS48.far ?_ NB0_390.out _ | refine IsS48.far ?_ NB0_415.out _ | apply IsS48.set_0 | apply IsS48.set_2 | apply IsS48.set_3 | apply IsS48.set_4 | apply IsS48.set_5 | apply IsS48.set_6) | exact HI0.out)) hb); have n1_ := Aside0.mk (blk_below (g := gb390) (by exact BK390.out) hb); have n2_ := Aside0.mk (blk_below (g := gb415) (by exact BK415.out) hb); have n3_ := Aside0.mk (KeepBut.trans (by repeat (first | (with_reducible first | exact HK.out | apply KeepBut.set_ | apply keep_drewN | apply keep_drew | apply keep_alloc | refine keep_far ?_ GW390.out _ | refine keep_far ?_ GW415.out _) | exact HK.out)) (KeepBut.of_below hb g none) (.inl rfl)); have n4_ := Aside0.mk (below_step (by repeat (first | (with_reducible first | exact HB.out | apply pw_below_drewN | refine below_set ?_ (IsS48.ge HI0.out) | refine below_set ?_ GE390.out | refine below_set ?_ GE415.out) | exact HB.out)) hb); have n5_ := Aside0.mk (hbox); have n6_ := Aside0.mk ((by rw [hg]; exact (keep_size (w := w) (g := g) (row := none) (by repeat (first | (with_reducible first | exact HK.out | apply KeepBut.set_ | apply keep_drewN | apply keep_drew | apply keep_alloc | refine keep_far ?_ GW390.out _ | refine keep_far ?_ GW415.out _) | exact HK.out))) : w.heap.size ≤ gb426)); have n7_ := Aside0.mk ((Nat.le_trans HW0.out (by rw [hg]; exact (keep_size (w := w) (g := g) (row := none) (by repeat (first | (with_reducible first | exact HK.out | apply KeepBut.set_ | apply keep_drewN | apply keep_drew | apply keep_alloc | refine keep_far ?_ GW390.out _ | refine keep_far ?_ GW415.out _) | exact HK.out))) : w.heap.size ≤ gb426) : w0.heap.size ≤ gb426)); have n8_ := Aside0.mk ((by rw [hg]; exact Nat.ne_of_lt (blk_lt (g := gb390) (o := .cells #[.int .i64 0, .int .i64 0] 60 (0, 0)) (by (with_reducible repeat refine blk_drewN ?_ _); exact BK390.out)) : gb390 ≠ gb426)); have n9_ := Aside0.mk ((by rw [hg]; exact Nat.ne_of_gt (blk_lt (g := gb390) (o := .cells #[.int .i64 0, .int .i64 0] 60 (0, 0)) (by (with_reducible repeat refine blk_drewN ?_ _); exact BK390.out)) : gb426 ≠ gb390)); have n10_ := Aside0.mk ((by rw [hg]; exact Nat.ne_of_lt (blk_lt (g := gb415) (o := .cells #[.int .i64 t407, .int .i64 t399] 60 (0, 0)) (by (with_reducible repeat refine blk_drewN ?_ _); exact BK415.out)) : gb415 ≠ gb426)); have n11_ := Aside0.mk ((by rw [hg]; exact Nat.ne_of_gt (blk_lt (g := gb415) (o := .cells #[.int .i64 t407, .int .i64 t399] 60 (0, 0)) (by (with_reducible repeat refine blk_drewN ?_ _); exact BK415.out)) : gb426 ≠ gb415)); have n12_ := Aside0.mk ((by rw [hg]; exact Nat.ne_of_lt (IsS48.lt (show IsS48 w0 _ g t419 t420 t421 t422 t423 t424 t425 from by repeat (first | (with_reducible first | exact HI0.out | apply IsS48.alloc | apply IsS48.drewN | apply IsS48.drew | refine IsS48.far ?_ NB0_390.out _ | refine IsS48.far ?_ NB0_415.out _ | apply IsS48.set_0 | apply IsS48.set_2 | apply IsS48.set_3 | apply IsS48.set_4 | apply IsS48.set_5 | apply IsS48.set_6) | exact HI0.out))) : g ≠ gb426)); have n13_ := Aside0.mk ((by rw [hg]; exact Nat.ne_of_gt (IsS48.lt (show IsS48 w0 _ g t419 t420 t421 t422 t423 t424 t425 from by repeat (first | (with_reducible first | exact HI0.out | apply IsS48.alloc | apply IsS48.drewN | apply IsS48.drew | refine IsS48.far ?_ NB0_390.out _ | refine IsS48.far ?_ NB0_415.out _ | apply IsS48.set_0 | apply IsS48.set_2 | apply IsS48.set_3 | apply IsS48.set_4 | apply IsS48.set_5 | apply IsS48.set_6) | exact HI0.out))) : gb426 ≠ g)); clear HI0 BK390 BK415 HK HB; have HI0 := n0_; have BK390 := n1_; have BK415 := n2_; have HK := n3_; have HB := n4_; have BK426 := n5_; have GW426 := n6_; have GE426 := n7_; have NB390_426 := n8_; have NB426_390 := n9_; have NB415_426 := n10_; have NB426_415 := n11_; have NB0_426 := n12_; have NB426_0 := n13_; clear n0_ n1_ n2_ n3_ n4_ n5_ n6_ n7_ n8_ n9_ n10_ n11_ n12_ n13_; clear hb hbox hg; have hnb39 := NB426_390.out; have hnc39 := NB390_426.out; have hnb40 := NB426_415.out; have hnc40 := NB415_426.out; have hnb41 := NB426_0.out; have hnc41 := NB0_426.out; have hcz42_0 : w38.cell? ⟨gb426, 0, none⟩ = some (.int .i64 0) := (blk_cell BK426.out 0).trans rfl; have hcz42_1 : w38.cell? ⟨gb426, 1, none⟩ = some (.int .i64 0) := (blk_cell BK426.out 1).trans rfl; have hfz42_0 := blk_frozen BK426.out 0; have hfz42_1 := blk_frozen BK426.out 1; have hnb43 := NB390_0.out; have hnc43 := NB0_390.out; have hcz44_0 : w38.cell? ⟨gb390, 0, none⟩ = some (.int .i64 0) := (blk_cell BK390.out 0).trans rfl; have hcz44_1 : w38.cell? ⟨gb390, 1, none⟩ = some (.int .i64 0) := (blk_cell BK390.out 1).trans rfl; have hfz44_0 := blk_frozen BK390.out 0; have hfz44_1 := blk_frozen BK390.out 1))
   refine bodyPost_ret (results_cell_row rfl _ _ gb390 60 #[.int .i64 0, .int .i64 0] (0, 0) _ rfl (by (with_reducible repeat refine blk_drewN ?_ _); refine blk_put (cs := #[.int .i64 0, .int .i64 0]) ?_ 1 _ rfl; (with_reducible repeat refine blk_drewN ?_ _); refine blk_put (cs := #[.int .i64 0, .int .i64 0]) ?_ 0 _ rfl; (with_reducible repeat refine blk_drewN ?_ _); refine blk_far ?_ NB390_426.out _; (with_reducible repeat refine blk_drewN ?_ _); refine blk_far ?_ NB390_426.out _; (with_reducible repeat refine blk_drewN ?_ _); exact BK390.out) Try.underlying60 rfl (by kernel_rfl)) rfl ?_
   exact ⟨by first | rfl | (simp [*] <;> rfl), by repeat (first | (with_reducible first | exact HI0.out | apply IsS48.alloc | apply IsS48.drewN | apply IsS48.drew | refine IsS48.far ?_ NB0_390.out _ | refine IsS48.far ?_ NB0_415.out _ | refine IsS48.far ?_ NB0_426.out _ | apply IsS48.set_0 | apply IsS48.set_2 | apply IsS48.set_3 | apply IsS48.set_4 | apply IsS48.set_5 | apply IsS48.set_6) | exact HI0.out), by repeat (first | (with_reducible first | exact HB.out | apply pw_below_drewN | refine below_set ?_ (IsS48.ge HI0.out) | refine below_set ?_ GE390.out | refine below_set ?_ GE415.out | refine below_set ?_ GE426.out) | exact HB.out), by repeat (first | (with_reducible first | exact HK.out | apply KeepBut.set_ | apply keep_drewN | apply keep_drew | apply keep_alloc | refine keep_far ?_ GW390.out _ | refine keep_far ?_ GW415.out _ | refine keep_far ?_ GW426.out _) | exact HK.out)⟩

/-! ### length_Steps: function 37 -/
def length_Steps.j0 : Nat → Int → Int → Bool → Int → Int → Option (Int × Int)
 | 0, _, _, _, _, _ => none
 | k + 1, x1, x2, x21, x428000, x428001 => if x21 = true then (some (0, 1)) else (if x428000 = 0 then (if x428001 > 1099511627776 then (some (0, 4)) else (some (x428001, 0))) else (if x428000 = 1 then (if (wrap64 (x428001 * x2)) > 1099511627776 then (some (0, 4)) else (some (wrap64 (x428001 * x2), 0))) else (if x428000 = 2 then (if (wrap64 (Int.tdiv (wrap64 (x1 * x428001)) 100)) > 1099511627776 then (some (0, 4)) else (some (wrap64 (Int.tdiv (wrap64 (x1 * x428001)) 100), 0))) else (if x1 > 1099511627776 then (some (0, 4)) else (some (x1, 0))))))
def length_Steps.f (k : Nat) (a0_0 : Int) (a0_1 : Int) (a1 : Int) (a2 : Int) : Option (Int × Int) := (length_Check.f k a0_0 a0_1).bind fun t428 => (if t428 = 0 then ((length_within.f a1 0 1048576).bind fun t429 => (if t429 = true then ((length_within.f a2 0 1048576).bind fun t430 => (length_Steps.j0 k a1 a2 (!t430) a0_0 a0_1)) else (length_Steps.j0 k a1 a2 true a0_0 a0_1))) else (length_Steps.j0 k a1 a2 true a0_0 a0_1))
theorem length_Steps.mono_l : ∀ k, (∀ y0 y1 y2 y3 y4, LeO (length_Steps.j0 k y0 y1 y2 y3 y4) (length_Steps.j0 (k + 1) y0 y1 y2 y3 y4))
 | 0 => fun _ _ _ _ _ r h => by simp [length_Steps.j0] at h
 | k + 1 => by
  have ih0 := length_Steps.mono_l k
  ·intro y0 y1 y2 y3 y4
   unfold length_Steps.j0
   repeat' first
   | (with_reducible exact ih0 _ _ _ _ _)
   | (with_reducible exact length_Check.mono _ _ _)
   | (with_reducible exact LeO.refl _)
   | (with_reducible exact LeO.none _)
   | (with_reducible refine LeO.ite ?_ ?_)
   | (with_reducible refine LeO.bind ?_ (fun _ => ?_))
   | exact ih0 _ _ _ _ _
   | exact length_Check.mono _ _ _
   | exact LeO.none _
   | refine LeO.ite ?_ ?_
   | refine LeO.bind ?_ (fun _ => ?_)
theorem length_Steps.mono : ∀ a0 a1 a2 a3 k, LeO (length_Steps.f k a0 a1 a2 a3) (length_Steps.f (k + 1) a0 a1 a2 a3) := by
 intro a0 a1 a2 a3 k
 have ih0 := length_Steps.mono_l k
 unfold length_Steps.f
 repeat' first
   | (with_reducible exact ih0 _ _ _ _ _)
   | (with_reducible exact length_Check.mono _ _ _)
   | (with_reducible exact LeO.refl _)
   | (with_reducible exact LeO.none _)
   | (with_reducible refine LeO.ite ?_ ?_)
   | (with_reducible refine LeO.bind ?_ (fun _ => ?_))
   | exact ih0 _ _ _ _ _
   | exact length_Check.mono _ _ _
   | exact LeO.none _
   | refine LeO.ite ?_ ?_
   | refine LeO.bind ?_ (fun _ => ?_)
set_option maxHeartbeats 8000000 in
set_option maxRecDepth 100000 in
theorem length_Steps.calls (k : Nat) (a0_0 : Int) (a0_1 : Int) (a1 : Int) (a2 : Int) (r1 : Int) (r2 : Int) (w : World) (h : length_Steps.f k a0_0 a0_1 a1 a2 = some (r1, r2)) :
  Calls Try.prog 37 #[.agg #[.int .i64 a0_0, .int .i64 a0_1], .int .i64 a1, .int .i64 a2] w fun e w' => e = .returned (.tuple #[.int .i64 r1, .int .i64 r2]) ∧ Below w.heap.size w w' := by
 have hu60 := Try.underlying60
 have HB := Aside0.mk (Below.refl w.heap.size w)
 have H : ((length_Check.f k a0_0 a0_1).bind fun t428 => (if t428 = 0 then ((length_within.f a1 0 1048576).bind fun t429 => (if t429 = true then ((length_within.f a2 0 1048576).bind fun t430 => (length_Steps.j0 k a1 a2 (!t430) a0_0 a0_1)) else (length_Steps.j0 k a1 a2 true a0_0 a0_1))) else (length_Steps.j0 k a1 a2 true a0_0 a0_1))) = some (r1, r2) := h
 clear h
 have HC4 := Aside0.mk H
 clear H
 go_enter Try.func37, Try.ntmps37
 go_upto_region 1 with (first | ((with_reducible refine gate_dst (N := 3) rfl ?_); refine box_event ?hg (N := 3) ?hd (cs := #[.int .i64 a0_0, .int .i64 a0_1]) (t := 60) ?hr ?_; (case hd => rfl); (case hg => rfl); (case hr => first | (go_simp; done) | (go_simp; rfl)); intro gb427 hg w5 hbox hb; have n0_ := Aside0.mk (below_step (by repeat (first | (with_reducible first | exact HB.out | apply pw_below_drewN) | exact HB.out)) hb); have n1_ := Aside0.mk (hbox); have n2_ := Aside0.mk ((by rw [hg]; exact (below_size (by repeat (first | (with_reducible first | exact HB.out | apply pw_below_drewN) | exact HB.out))) : w.heap.size ≤ gb427)); have n3_ := n2_; clear HB; have HB := n0_; have BK427 := n1_; have GW427 := n2_; have GE427 := n3_; clear n0_ n1_ n2_ n3_; clear hb hbox hg))
 (try simp only [Act.put, List.setIfInBounds_toArray, List.set_cons_zero, List.set_cons_succ])
 go_cut [21] (fun v21 wc => ∃ (kq : Nat) (x21_3 : Bool), v21 = .bool x21_3 ∧ Aside0 (length_Steps.j0 kq a1 a2 x21_3 a0_0 a0_1 = some (r1, r2)) ∧ Aside0 (kq ≤ k) ∧ Aside0 (wc.heap[gb427]? = some (.cells #[.int .i64 a0_0, .int .i64 a0_1] 60 (0, 0))) ∧ Aside0 (Below w.heap.size w wc))
 case first =>
  have H := HC4.out
  clear HC4
  replace H := Option.bind_eq_some_iff.mp H
  obtain ⟨t428, A60, H⟩ := H
  replace H : (if t428 = 0 then ((length_within.f a1 0 1048576).bind fun t429 => (if t429 = true then ((length_within.f a2 0 1048576).bind fun t430 => (length_Steps.j0 k a1 a2 (!t430) a0_0 a0_1)) else (length_Steps.j0 k a1 a2 true a0_0 a0_1))) else (length_Steps.j0 k a1 a2 true a0_0 a0_1)) = some (r1, r2) := H
  have A6 := Aside0.mk A60
  clear A60
  by_cases c7 : t428 = 0
  ·rw [if_pos c7] at H
   have c7b0 : (t428 == 0) = true := beq_iff_eq.mpr c7
   have c7b1 : (t428 != 0) = false := bne_eq_false_iff_eq.mpr c7
   clear c7
   (first | rw [c7b0] | rw [c7b1] | (simp only [i64_w, i32_w]; rw [c7b0]) | skip)
   replace H := Option.bind_eq_some_iff.mp H
   obtain ⟨t429, A80, H⟩ := H
   replace H : (if t429 = true then ((length_within.f a2 0 1048576).bind fun t430 => (length_Steps.j0 k a1 a2 (!t430) a0_0 a0_1)) else (length_Steps.j0 k a1 a2 true a0_0 a0_1)) = some (r1, r2) := H
   have A8 := Aside0.mk A80
   clear A80
   by_cases c9 : t429 = true
   ·subst c9
    have H1 : ((length_within.f a2 0 1048576).bind fun t430 => (length_Steps.j0 k a1 a2 (!t430) a0_0 a0_1)) = some (r1, r2) := by rw [if_pos rfl] at H; exact H
    clear H
    have H := H1
    clear H1
    replace H := Option.bind_eq_some_iff.mp H
    obtain ⟨t430, A100, H⟩ := H
    replace H : (length_Steps.j0 k a1 a2 (!t430) a0_0 a0_1) = some (r1, r2) := H
    have A10 := Aside0.mk A100
    clear A100
    have H' := Aside0.mk H
    clear H
    have hcz11_0 : w5.cell? ⟨gb427, 0, none⟩ = some (.int .i64 a0_0) := (blk_cell BK427.out 0).trans rfl
    have hcz11_1 : w5.cell? ⟨gb427, 1, none⟩ = some (.int .i64 a0_1) := (blk_cell BK427.out 1).trans rfl
    have hfz11_0 := blk_frozen BK427.out 0
    have hfz11_1 := blk_frozen BK427.out 1
    go_wp2_with (first | ((with_reducible refine gate_callee (f := 39) rfl ?_); refine goesL_ (some 10) rfl rfl Try.func39 (by kernel_rfl) rfl #[.agg #[.int .i64 a0_0, .int .i64 a0_1]] rfl (by (try simp only [List.map_toArray, List.map_cons, List.map_nil]); first | done | rfl | (simp only [List.length_drop, List.length_take]; rfl)) ?_; (with_reducible refine (length_Check.calls k a0_0 a0_1 t428 _ A6.out).mono ?_); rintro e w12 ⟨rfl, hb⟩; refine ⟨_, rfl, ?_⟩; have n0_ := Aside0.mk (blk_below (g := gb427) (by exact BK427.out) hb); have n1_ := Aside0.mk (below_step (by repeat (first | (with_reducible first | exact HB.out | apply pw_below_drewN | refine below_set ?_ GE427.out) | exact HB.out)) hb); clear BK427 HB; have BK427 := n0_; have HB := n1_; clear n0_ n1_; (try clear hb)) | (go_at_call 71; (with_reducible refine (length_within.calls a1 0 1048576 true _ A8.out).mono ?_); rintro e w' ⟨rfl, ⟨nd, rfl⟩⟩) | (go_at_call 71; (with_reducible refine (length_within.calls a2 0 1048576 t430 _ A10.out).mono ?_); rintro e w' ⟨rfl, ⟨nd, rfl⟩⟩))
    go_meet
    case rel => exact ⟨_, (!t430), (by first | rfl | (simp; done) | (simp [*]; done)), H', ⟨by first | omega | exact Nat.le_refl _⟩, ⟨by (with_reducible repeat refine blk_drewN ?_ _); exact BK427.out⟩, ⟨by repeat (first | (with_reducible first | exact HB.out | apply pw_below_drewN | refine below_set ?_ GE427.out) | exact HB.out)⟩⟩
   ·replace c9 := Bool.eq_false_iff.mpr c9
    subst c9
    have H1 : (length_Steps.j0 k a1 a2 true a0_0 a0_1) = some (r1, r2) := by rw [if_neg (show ¬ (false = true) by decide)] at H; exact H
    clear H
    have H := H1
    clear H1
    have H' := Aside0.mk H
    clear H
    have hcz13_0 : w5.cell? ⟨gb427, 0, none⟩ = some (.int .i64 a0_0) := (blk_cell BK427.out 0).trans rfl
    have hcz13_1 : w5.cell? ⟨gb427, 1, none⟩ = some (.int .i64 a0_1) := (blk_cell BK427.out 1).trans rfl
    have hfz13_0 := blk_frozen BK427.out 0
    have hfz13_1 := blk_frozen BK427.out 1
    go_wp2_with (first | ((with_reducible refine gate_callee (f := 39) rfl ?_); refine goesL_ (some 10) rfl rfl Try.func39 (by kernel_rfl) rfl #[.agg #[.int .i64 a0_0, .int .i64 a0_1]] rfl (by (try simp only [List.map_toArray, List.map_cons, List.map_nil]); first | done | rfl | (simp only [List.length_drop, List.length_take]; rfl)) ?_; (with_reducible refine (length_Check.calls k a0_0 a0_1 t428 _ A6.out).mono ?_); rintro e w14 ⟨rfl, hb⟩; refine ⟨_, rfl, ?_⟩; have n0_ := Aside0.mk (blk_below (g := gb427) (by exact BK427.out) hb); have n1_ := Aside0.mk (below_step (by repeat (first | (with_reducible first | exact HB.out | apply pw_below_drewN | refine below_set ?_ GE427.out) | exact HB.out)) hb); clear BK427 HB; have BK427 := n0_; have HB := n1_; clear n0_ n1_; (try clear hb)) | (go_at_call 71; (with_reducible refine (length_within.calls a1 0 1048576 false _ A8.out).mono ?_); rintro e w' ⟨rfl, ⟨nd, rfl⟩⟩))
    go_meet
    case rel => exact ⟨_, (true), (by first | rfl | (simp; done) | (simp [*]; done)), H', ⟨by first | omega | exact Nat.le_refl _⟩, ⟨by (with_reducible repeat refine blk_drewN ?_ _); exact BK427.out⟩, ⟨by repeat (first | (with_reducible first | exact HB.out | apply pw_below_drewN | refine below_set ?_ GE427.out) | exact HB.out)⟩⟩
  ·rw [if_neg c7] at H
   have c7b0 : (t428 == 0) = false := beq_eq_false_iff_ne.mpr c7
   have c7b1 : (t428 != 0) = true := bne_iff_ne.mpr c7
   (first | rw [c7b0] | rw [c7b1] | (simp only [i64_w, i32_w]; rw [c7b0]) | skip)
   have H' := Aside0.mk H
   clear H
   have hcz15_0 : w5.cell? ⟨gb427, 0, none⟩ = some (.int .i64 a0_0) := (blk_cell BK427.out 0).trans rfl
   have hcz15_1 : w5.cell? ⟨gb427, 1, none⟩ = some (.int .i64 a0_1) := (blk_cell BK427.out 1).trans rfl
   have hfz15_0 := blk_frozen BK427.out 0
   have hfz15_1 := blk_frozen BK427.out 1
   go_wp2_with (first | ((with_reducible refine gate_callee (f := 39) rfl ?_); refine goesL_ (some 10) rfl rfl Try.func39 (by kernel_rfl) rfl #[.agg #[.int .i64 a0_0, .int .i64 a0_1]] rfl (by (try simp only [List.map_toArray, List.map_cons, List.map_nil]); first | done | rfl | (simp only [List.length_drop, List.length_take]; rfl)) ?_; (with_reducible refine (length_Check.calls k a0_0 a0_1 t428 _ A6.out).mono ?_); rintro e w16 ⟨rfl, hb⟩; refine ⟨_, rfl, ?_⟩; have n0_ := Aside0.mk (blk_below (g := gb427) (by exact BK427.out) hb); have n1_ := Aside0.mk (below_step (by repeat (first | (with_reducible first | exact HB.out | apply pw_below_drewN | refine below_set ?_ GE427.out) | exact HB.out)) hb); clear BK427 HB; have BK427 := n0_; have HB := n1_; clear n0_ n1_; (try clear hb)))
   go_meet
   case rel => exact ⟨_, (true), (by first | rfl | (simp; done) | (simp [*]; done)), H', ⟨by first | omega | exact Nat.le_refl _⟩, ⟨by (with_reducible repeat refine blk_drewN ?_ _); exact BK427.out⟩, ⟨by repeat (first | (with_reducible first | exact HB.out | apply pw_below_drewN | refine below_set ?_ GE427.out) | exact HB.out)⟩⟩
 case rest =>
  clear HC4
  try clear p2
  try clear c3
  try clear c7
  try clear c7b0
  try clear c7b1
  try clear c9
  try clear hcz11_0
  try clear hcz11_1
  try clear hcz13_0
  try clear hcz13_1
  try clear hcz15_0
  try clear hcz15_1
  try clear hfz11_0
  try clear hfz11_1
  try clear hfz13_0
  try clear hfz13_1
  try clear hfz15_0
  try clear hfz15_1
  obtain ⟨kq, x21_3, rfl, HA, HJ3, BK427, HB⟩ := hcut
  cases kq with
  | zero => exact absurd HA.out (by simp [length_Steps.j0])
  | succ kj3 =>
   have H := HA.out
   clear HA
   simp only [length_Steps.j0] at H
   by_cases c17 : x21_3 = true
   ·subst c17
    have H1 : (some (0, 1)) = some (r1, r2) := by rw [if_pos rfl] at H; exact H
    clear H
    have H := H1
    clear H1
    simp only [Option.some.injEq, Prod.mk.injEq] at H
    obtain ⟨rfl, rfl⟩ := H
    go_wp2
    go_ret2
    exact ⟨by first | rfl | (simp [*] <;> rfl), by repeat (first | (with_reducible first | exact HB.out | apply pw_below_drewN | refine below_set ?_ GE427.out) | exact HB.out)⟩
   ·replace c17 := Bool.eq_false_iff.mpr c17
    subst c17
    have H1 : (if a0_0 = 0 then (if a0_1 > 1099511627776 then (some (0, 4)) else (some (a0_1, 0))) else (if a0_0 = 1 then (if (wrap64 (a0_1 * a2)) > 1099511627776 then (some (0, 4)) else (some (wrap64 (a0_1 * a2), 0))) else (if a0_0 = 2 then (if (wrap64 (Int.tdiv (wrap64 (a1 * a0_1)) 100)) > 1099511627776 then (some (0, 4)) else (some (wrap64 (Int.tdiv (wrap64 (a1 * a0_1)) 100), 0))) else (if a1 > 1099511627776 then (some (0, 4)) else (some (a1, 0)))))) = some (r1, r2) := by rw [if_neg (show ¬ (false = true) by decide)] at H; exact H
    clear H
    have H := H1
    clear H1
    by_cases c18 : a0_0 = 0
    ·rw [if_pos c18] at H
     have c18b0 : (a0_0 == 0) = true := beq_iff_eq.mpr c18
     have c18b1 : (a0_0 != 0) = false := bne_eq_false_iff_eq.mpr c18
     clear c18
     by_cases c19 : a0_1 > 1099511627776
     ·rw [if_pos c19] at H
      have c19b0 : decide (1099511627776 < a0_1) = true := decide_eq_true c19
      clear c19
      simp only [Option.some.injEq, Prod.mk.injEq] at H
      obtain ⟨rfl, rfl⟩ := H
      have hcz20_0 : wc.cell? ⟨gb427, 0, none⟩ = some (.int .i64 a0_0) := (blk_cell BK427.out 0).trans rfl
      have hcz20_1 : wc.cell? ⟨gb427, 1, none⟩ = some (.int .i64 a0_1) := (blk_cell BK427.out 1).trans rfl
      have hfz20_0 := blk_frozen BK427.out 0
      have hfz20_1 := blk_frozen BK427.out 1
      go_wp2
      go_ret2
      exact ⟨by first | rfl | (simp [*] <;> rfl), by repeat (first | (with_reducible first | exact HB.out | apply pw_below_drewN | refine below_set ?_ GE427.out) | exact HB.out)⟩
     ·rw [if_neg c19] at H
      have c19b0 : decide (1099511627776 < a0_1) = false := decide_eq_false c19
      clear c19
      simp only [Option.some.injEq, Prod.mk.injEq] at H
      obtain ⟨rfl, rfl⟩ := H
      have hcz21_0 : wc.cell? ⟨gb427, 0, none⟩ = some (.int .i64 a0_0) := (blk_cell BK427.out 0).trans rfl
      have hcz21_1 : wc.cell? ⟨gb427, 1, none⟩ = some (.int .i64 a0_1) := (blk_cell BK427.out 1).trans rfl
      have hfz21_0 := blk_frozen BK427.out 0
      have hfz21_1 := blk_frozen BK427.out 1
      go_wp2
      go_ret2
      exact ⟨by first | rfl | (simp [*] <;> rfl), by repeat (first | (with_reducible first | exact HB.out | apply pw_below_drewN | refine below_set ?_ GE427.out) | exact HB.out)⟩
    ·rw [if_neg c18] at H
     have c18b0 : (a0_0 == 0) = false := beq_eq_false_iff_ne.mpr c18
     have c18b1 : (a0_0 != 0) = true := bne_iff_ne.mpr c18
     by_cases c22 : a0_0 = 1
     ·rw [if_pos c22] at H
      have c22b0 : (a0_0 == 1) = true := beq_iff_eq.mpr c22
      have c22b1 : (a0_0 != 1) = false := bne_eq_false_iff_eq.mpr c22
      clear c22
      by_cases c23 : (wrap64 (a0_1 * a2)) > 1099511627776
      ·rw [if_pos c23] at H
       have c23b0 : decide (1099511627776 < (wrap64 (a0_1 * a2))) = true := decide_eq_true c23
       clear c23
       simp only [Option.some.injEq, Prod.mk.injEq] at H
       obtain ⟨rfl, rfl⟩ := H
       have hcz24_0 : wc.cell? ⟨gb427, 0, none⟩ = some (.int .i64 a0_0) := (blk_cell BK427.out 0).trans rfl
       have hcz24_1 : wc.cell? ⟨gb427, 1, none⟩ = some (.int .i64 a0_1) := (blk_cell BK427.out 1).trans rfl
       have hfz24_0 := blk_frozen BK427.out 0
       have hfz24_1 := blk_frozen BK427.out 1
       go_wp2
       go_ret2
       exact ⟨by first | rfl | (simp [*] <;> rfl), by repeat (first | (with_reducible first | exact HB.out | apply pw_below_drewN | refine below_set ?_ GE427.out) | exact HB.out)⟩
      ·rw [if_neg c23] at H
       have c23b0 : decide (1099511627776 < (wrap64 (a0_1 * a2))) = false := decide_eq_false c23
       clear c23
       simp only [Option.some.injEq, Prod.mk.injEq] at H
       obtain ⟨rfl, rfl⟩ := H
       have hcz25_0 : wc.cell? ⟨gb427, 0, none⟩ = some (.int .i64 a0_0) := (blk_cell BK427.out 0).trans rfl
       have hcz25_1 : wc.cell? ⟨gb427, 1, none⟩ = some (.int .i64 a0_1) := (blk_cell BK427.out 1).trans rfl
       have hfz25_0 := blk_frozen BK427.out 0
       have hfz25_1 := blk_frozen BK427.out 1
       go_wp2
       go_ret2
       exact ⟨by first | rfl | (simp [*] <;> rfl), by repeat (first | (with_reducible first | exact HB.out | apply pw_below_drewN | refine below_set ?_ GE427.out) | exact HB.out)⟩
     ·rw [if_neg c22] at H
      have c22b0 : (a0_0 == 1) = false := beq_eq_false_iff_ne.mpr c22
      have c22b1 : (a0_0 != 1) = true := bne_iff_ne.mpr c22
      by_cases c26 : a0_0 = 2
      ·rw [if_pos c26] at H
       have c26b0 : (a0_0 == 2) = true := beq_iff_eq.mpr c26
       have c26b1 : (a0_0 != 2) = false := bne_eq_false_iff_eq.mpr c26
       clear c26
       by_cases c27 : (wrap64 (Int.tdiv (wrap64 (a1 * a0_1)) 100)) > 1099511627776
       ·rw [if_pos c27] at H
        have c27b0 : decide (1099511627776 < (wrap64 (Int.tdiv (wrap64 (a1 * a0_1)) 100))) = true := decide_eq_true c27
        clear c27
        simp only [Option.some.injEq, Prod.mk.injEq] at H
        obtain ⟨rfl, rfl⟩ := H
        have hcz28_0 : wc.cell? ⟨gb427, 0, none⟩ = some (.int .i64 a0_0) := (blk_cell BK427.out 0).trans rfl
        have hcz28_1 : wc.cell? ⟨gb427, 1, none⟩ = some (.int .i64 a0_1) := (blk_cell BK427.out 1).trans rfl
        have hfz28_0 := blk_frozen BK427.out 0
        have hfz28_1 := blk_frozen BK427.out 1
        go_wp2
        go_ret2
        exact ⟨by first | rfl | (simp [*] <;> rfl), by repeat (first | (with_reducible first | exact HB.out | apply pw_below_drewN | refine below_set ?_ GE427.out) | exact HB.out)⟩
       ·rw [if_neg c27] at H
        have c27b0 : decide (1099511627776 < (wrap64 (Int.tdiv (wrap64 (a1 * a0_1)) 100))) = false := decide_eq_false c27
        clear c27
        simp only [Option.some.injEq, Prod.mk.injEq] at H
        obtain ⟨rfl, rfl⟩ := H
        have hcz29_0 : wc.cell? ⟨gb427, 0, none⟩ = some (.int .i64 a0_0) := (blk_cell BK427.out 0).trans rfl
        have hcz29_1 : wc.cell? ⟨gb427, 1, none⟩ = some (.int .i64 a0_1) := (blk_cell BK427.out 1).trans rfl
        have hfz29_0 := blk_frozen BK427.out 0
        have hfz29_1 := blk_frozen BK427.out 1
        go_wp2
        go_ret2
        exact ⟨by first | rfl | (simp [*] <;> rfl), by repeat (first | (with_reducible first | exact HB.out | apply pw_below_drewN | refine below_set ?_ GE427.out) | exact HB.out)⟩
      ·rw [if_neg c26] at H
       have c26b0 : (a0_0 == 2) = false := beq_eq_false_iff_ne.mpr c26
       have c26b1 : (a0_0 != 2) = true := bne_iff_ne.mpr c26
       by_cases c30 : a1 > 1099511627776
       ·rw [if_pos c30] at H
        have c30b0 : decide (1099511627776 < a1) = true := decide_eq_true c30
        clear c30
        simp only [Option.some.injEq, Prod.mk.injEq] at H
        obtain ⟨rfl, rfl⟩ := H
        have hcz31_0 : wc.cell? ⟨gb427, 0, none⟩ = some (.int .i64 a0_0) := (blk_cell BK427.out 0).trans rfl
        have hcz31_1 : wc.cell? ⟨gb427, 1, none⟩ = some (.int .i64 a0_1) := (blk_cell BK427.out 1).trans rfl
        have hfz31_0 := blk_frozen BK427.out 0
        have hfz31_1 := blk_frozen BK427.out 1
        go_wp2
        go_ret2
        exact ⟨by first | rfl | (simp [*] <;> rfl), by repeat (first | (with_reducible first | exact HB.out | apply pw_below_drewN | refine below_set ?_ GE427.out) | exact HB.out)⟩
       ·rw [if_neg c30] at H
        have c30b0 : decide (1099511627776 < a1) = false := decide_eq_false c30
        clear c30
        simp only [Option.some.injEq, Prod.mk.injEq] at H
        obtain ⟨rfl, rfl⟩ := H
        have hcz32_0 : wc.cell? ⟨gb427, 0, none⟩ = some (.int .i64 a0_0) := (blk_cell BK427.out 0).trans rfl
        have hcz32_1 : wc.cell? ⟨gb427, 1, none⟩ = some (.int .i64 a0_1) := (blk_cell BK427.out 1).trans rfl
        have hfz32_0 := blk_frozen BK427.out 0
        have hfz32_1 := blk_frozen BK427.out 1
        go_wp2
        go_ret2
        exact ⟨by first | rfl | (simp [*] <;> rfl), by repeat (first | (with_reducible first | exact HB.out | apply pw_below_drewN | refine below_set ?_ GE427.out) | exact HB.out)⟩

/-! ### regimenlaw14_awake: function 31 -/
def regimenlaw14_awake.f (k : Nat)  : Option (Bool) := (length_Steps.f k 2 50 7 0).bind fun bt431 => ((scan_Tokens.f k (⟨#[51, 32, 101, 112, 111, 99, 104, 115]⟩ : ByteArray)).bind fun bt433 => ((cursor_New.f bt433.1).bind fun bt440 => ((length_Read.f k bt440.1 bt440.2.1 bt440.2.2.1 bt440.2.2.2.1 bt440.2.2.2.2.1 bt440.2.2.2.2.2.1 bt440.2.2.2.2.2.2).bind fun bt448 => ((length_Put.f k bt448.1 bt448.2.1).bind fun bt458 => (if bt431.1 = 3 then (if bt431.2 = 0 then (if (bt448.1 == 1 && (bt448.2.1 == 3)) = true then (if bt458.1.toList = ([51, 32, 101, 112, 111, 99, 104, 115] : List UInt8) then (some (bt458.2 == 0)) else (none)) else (none)) else (none)) else (none))))))
theorem regimenlaw14_awake.mono : ∀ k, LeO (regimenlaw14_awake.f k ) (regimenlaw14_awake.f (k + 1) ) := by
 intro  k
 unfold regimenlaw14_awake.f
 repeat' first
   | (with_reducible exact length_Put.mono _ _ _)
   | (with_reducible exact length_Read.mono _ _ _ _ _ _ _ _)
   | (with_reducible exact length_Steps.mono _ _ _ _ _)
   | (with_reducible exact scan_Tokens.mono _ _)
   | (with_reducible exact LeO.refl _)
   | (with_reducible exact LeO.none _)
   | (with_reducible refine LeO.ite ?_ ?_)
   | (with_reducible refine LeO.bind ?_ (fun _ => ?_))
   | exact length_Put.mono _ _ _
   | exact length_Read.mono _ _ _ _ _ _ _ _
   | exact length_Steps.mono _ _ _ _ _
   | exact scan_Tokens.mono _ _
   | exact LeO.none _
   | refine LeO.ite ?_ ?_
   | refine LeO.bind ?_ (fun _ => ?_)
set_option maxHeartbeats 8000000 in
set_option maxRecDepth 100000 in
theorem regimenlaw14_awake.calls (k : Nat)  (r : Bool) (w : World) (h : regimenlaw14_awake.f k  = some r) :
  Calls Try.prog 31 #[] w fun e w' => e = .returned (.bool r) ∧ Below w.heap.size w w' := by
 have hu60 := Try.underlying60
 have hu25 := Try.underlying25
 have HB := Aside0.mk (Below.refl w.heap.size w)
 have H : ((length_Steps.f k 2 50 7 0).bind fun bt431 => ((scan_Tokens.f k (⟨#[51, 32, 101, 112, 111, 99, 104, 115]⟩ : ByteArray)).bind fun bt433 => ((cursor_New.f bt433.1).bind fun bt440 => ((length_Read.f k bt440.1 bt440.2.1 bt440.2.2.1 bt440.2.2.2.1 bt440.2.2.2.2.1 bt440.2.2.2.2.2.1 bt440.2.2.2.2.2.2).bind fun bt448 => ((length_Put.f k bt448.1 bt448.2.1).bind fun bt458 => (if bt431.1 = 3 then (if bt431.2 = 0 then (if (bt448.1 == 1 && (bt448.2.1 == 3)) = true then (if bt458.1.toList = ([51, 32, 101, 112, 111, 99, 104, 115] : List UInt8) then (some (bt458.2 == 0)) else (none)) else (none)) else (none)) else (none))))))) = some r := h
 clear h
 replace H := Option.bind_eq_some_iff.mp H
 obtain ⟨⟨t431, t432⟩, A10, H⟩ := H
 replace H : ((scan_Tokens.f k (⟨#[51, 32, 101, 112, 111, 99, 104, 115]⟩ : ByteArray)).bind fun bt433 => ((cursor_New.f bt433.1).bind fun bt440 => ((length_Read.f k bt440.1 bt440.2.1 bt440.2.2.1 bt440.2.2.2.1 bt440.2.2.2.2.1 bt440.2.2.2.2.2.1 bt440.2.2.2.2.2.2).bind fun bt448 => ((length_Put.f k bt448.1 bt448.2.1).bind fun bt458 => (if t431 = 3 then (if t432 = 0 then (if (bt448.1 == 1 && (bt448.2.1 == 3)) = true then (if bt458.1.toList = ([51, 32, 101, 112, 111, 99, 104, 115] : List UInt8) then (some (bt458.2 == 0)) else (none)) else (none)) else (none)) else (none)))))) = some r := H
 have A1 := Aside0.mk A10
 clear A10
 replace H := Option.bind_eq_some_iff.mp H
 obtain ⟨⟨t433, t436, t437, t438⟩, A20, H⟩ := H
 replace H : ((cursor_New.f t433).bind fun bt440 => ((length_Read.f k bt440.1 bt440.2.1 bt440.2.2.1 bt440.2.2.2.1 bt440.2.2.2.2.1 bt440.2.2.2.2.2.1 bt440.2.2.2.2.2.2).bind fun bt448 => ((length_Put.f k bt448.1 bt448.2.1).bind fun bt458 => (if t431 = 3 then (if t432 = 0 then (if (bt448.1 == 1 && (bt448.2.1 == 3)) = true then (if bt458.1.toList = ([51, 32, 101, 112, 111, 99, 104, 115] : List UInt8) then (some (bt458.2 == 0)) else (none)) else (none)) else (none)) else (none))))) = some r := H
 have A2 := Aside0.mk A20
 clear A20
 replace H := Option.bind_eq_some_iff.mp H
 obtain ⟨⟨t440, t441, t442, t443, t444, t445, t446⟩, A30, H⟩ := H
 replace H : ((length_Read.f k t440 t441 t442 t443 t444 t445 t446).bind fun bt448 => ((length_Put.f k bt448.1 bt448.2.1).bind fun bt458 => (if t431 = 3 then (if t432 = 0 then (if (bt448.1 == 1 && (bt448.2.1 == 3)) = true then (if bt458.1.toList = ([51, 32, 101, 112, 111, 99, 104, 115] : List UInt8) then (some (bt458.2 == 0)) else (none)) else (none)) else (none)) else (none)))) = some r := H
 have A3 := Aside0.mk A30
 clear A30
 replace H := Option.bind_eq_some_iff.mp H
 obtain ⟨⟨t448, t449, t450, t451, t452, t453, t454, t455, t456⟩, A40, H⟩ := H
 replace H : ((length_Put.f k t448 t449).bind fun bt458 => (if t431 = 3 then (if t432 = 0 then (if (t448 == 1 && (t449 == 3)) = true then (if bt458.1.toList = ([51, 32, 101, 112, 111, 99, 104, 115] : List UInt8) then (some (bt458.2 == 0)) else (none)) else (none)) else (none)) else (none))) = some r := H
 have A4 := Aside0.mk A40
 clear A40
 replace H := Option.bind_eq_some_iff.mp H
 obtain ⟨⟨t458, t459⟩, A50, H⟩ := H
 replace H : (if t431 = 3 then (if t432 = 0 then (if (t448 == 1 && (t449 == 3)) = true then (if t458.toList = ([51, 32, 101, 112, 111, 99, 104, 115] : List UInt8) then (some (t459 == 0)) else (none)) else (none)) else (none)) else (none)) = some r := H
 have A5 := Aside0.mk A50
 clear A50
 by_cases c6 : t431 = 3
 ·rw [if_pos c6] at H
  have c6b0 : (t431 == 3) = true := beq_iff_eq.mpr c6
  have c6b1 : (t431 != 3) = false := bne_eq_false_iff_eq.mpr c6
  clear c6
  by_cases c7 : t432 = 0
  ·rw [if_pos c7] at H
   have c7b0 : (t432 == 0) = true := beq_iff_eq.mpr c7
   have c7b1 : (t432 != 0) = false := bne_eq_false_iff_eq.mpr c7
   clear c7
   by_cases c8 : (t448 == 1 && (t449 == 3)) = true
   ·rw [if_pos c8] at H
    have c8b0 : (t448 == 1 && (t449 == 3)) = true := c8
    (try (have c8b1 : decide (t448 = 1 && (t449 == 3)) = true := by simpa using c8))
    (try (have c8b2 : (t448 == 1 && (t449 == 3)) = true := by simpa using c8))
    clear c8
    by_cases c9 : t458.toList = ([51, 32, 101, 112, 111, 99, 104, 115] : List UInt8)
    ·rw [if_pos c9] at H
     have c9b0 : (t458.toList == ([51, 32, 101, 112, 111, 99, 104, 115] : List UInt8)) = true := beq_iff_eq.mpr c9
     have c9b1 : (t458.toList != ([51, 32, 101, 112, 111, 99, 104, 115] : List UInt8)) = false := bne_eq_false_iff_eq.mpr c9
     clear c9
     (try (have c9_c8b0 := c8b0; simp only [c9b0, Bool.true_and, Bool.and_true, Bool.false_or, Bool.or_false, Bool.not_true, Bool.not_false] at c9_c8b0))
     obtain rfl := Option.some.inj H
     go_enter Try.func31, Try.ntmps31
     go_wp2_with (first | ((with_reducible refine gate_callee (f := 37) rfl ?_); refine goesL_ (some 11) rfl rfl Try.func37 (by kernel_rfl) rfl #[.agg #[.int .i64 2, .int .i64 50], .int .i64 7, .int .i64 0] rfl (by (try simp only [List.map_toArray, List.map_cons, List.map_nil]); first | done | rfl | (simp only [List.length_drop, List.length_take]; rfl)) ?_; (with_reducible refine (length_Steps.calls k 2 50 7 0 t431 t432 _ A1.out).mono ?_); rintro e w10 ⟨rfl, hb⟩; refine ⟨_, rfl, ?_⟩; have n0_ := Aside0.mk (below_step (by repeat (first | (with_reducible first | exact HB.out | apply pw_below_drewN) | exact HB.out)) hb); clear HB; have HB := n0_; clear n0_; (try clear hb)) | ((with_reducible refine gate_callee (f := 12) rfl ?_); refine goesL_ (some 15) rfl rfl Try.func12 (by kernel_rfl) rfl #[.string (⟨#[51, 32, 101, 112, 111, 99, 104, 115]⟩ : ByteArray)] rfl (by (try simp only [List.map_toArray, List.map_cons, List.map_nil]); first | done | rfl | (simp only [List.length_drop, List.length_take]; rfl)) ?_; (with_reducible refine (scan_Tokens.calls k (⟨#[51, 32, 101, 112, 111, 99, 104, 115]⟩ : ByteArray) t433 t436 t437 t438 _ A2.out).mono ?_); rintro e w11 ⟨v434, rfl, ho0, hb⟩; refine ⟨_, rfl, ?_⟩; have n0_ := Aside0.mk (Kd.R_lower ho0 (below_size (by repeat (first | (with_reducible first | exact HB.out | apply pw_below_drewN) | exact HB.out)))); have n1_ := Aside0.mk (below_step (by repeat (first | (with_reducible first | exact HB.out | apply pw_below_drewN) | exact HB.out)) hb); clear HB; have HO435 := n0_; have HB := n1_; clear n0_ n1_; (try clear hb); (try clear ho0)) | ((with_reducible refine gate_dst (N := 4) rfl ?_); refine box_event ?hg (N := 4) ?hd (cs := #[.int .i64 0, .int .i64 0]) (t := 25) ?hr ?_; (case hd => rfl); (case hg => rfl); (case hr => first | (go_simp; done) | (go_simp; rfl)); intro gb439 hg w12 hbox hb; have n0_ := Aside0.mk (Kd.R_below (by (with_reducible repeat apply Kd.R_drewN); exact HO435.out) hb); have n1_ := Aside0.mk (below_step (by repeat (first | (with_reducible first | exact HB.out | apply pw_below_drewN) | exact HB.out)) hb); have n2_ := Aside0.mk (hbox); have n3_ := Aside0.mk ((by rw [hg]; exact (below_size (by repeat (first | (with_reducible first | exact HB.out | apply pw_below_drewN) | exact HB.out))) : w.heap.size ≤ gb439)); have n4_ := n3_; clear HO435 HB; have HO435 := n0_; have HB := n1_; have BK439 := n2_; have GW439 := n3_; have GE439 := n4_; clear n0_ n1_ n2_ n3_ n4_; clear hb hbox hg; have hcz13_0 : w12.cell? ⟨gb439, 0, none⟩ = some (.int .i64 0) := (blk_cell BK439.out 0).trans rfl; have hcz13_1 : w12.cell? ⟨gb439, 1, none⟩ = some (.int .i64 0) := (blk_cell BK439.out 1).trans rfl; have hfz13_0 := blk_frozen BK439.out 0; have hfz13_1 := blk_frozen BK439.out 1; obtain ⟨Ao14, co14, eo14⟩ := Kd.R_slice HO435.out; subst eo14) | ((with_reducible refine gate_callee (f := 32) rfl ?_); refine goesL_ (some 20) rfl rfl Try.func32 (by kernel_rfl) rfl #[.slice Ao14 t433.length co14] rfl (by (try simp only [List.map_toArray, List.map_cons, List.map_nil]); first | done | rfl | (simp only [List.length_drop, List.length_take]; rfl)) ?_; have gO_ := (Kd.R_mono (Kd.R_far (p := ⟨gb439, 1, none⟩) (Kd.R_far (p := ⟨gb439, 0, none⟩) (Kd.R_types HO435.out BK439.out (by decide)) (fun _ hk => hk.2) (.int .i64 t436)) (fun _ hk => hk.2) (.int .i64 t437)) (fun _ h_ => h_.1)); have gBgb439_ := (show (((w12.setCell ⟨gb439, 0, none⟩ (.int .i64 t436)).setCell ⟨gb439, 1, none⟩ (.int .i64 t437))).heap[gb439]? = some (.cells #[.int .i64 t436, .int .i64 t437] 25 (0, 0)) from (by (with_reducible repeat refine blk_drewN ?_ _); refine blk_put (cs := #[.int .i64 t436, .int .i64 0]) ?_ 1 _ rfl; (with_reducible repeat refine blk_drewN ?_ _); refine blk_put (cs := #[.int .i64 0, .int .i64 0]) ?_ 0 _ rfl; (with_reducible repeat refine blk_drewN ?_ _); exact BK439.out)); have gH_ := (show Below _ _ ((w12.setCell ⟨gb439, 0, none⟩ (.int .i64 t436)).setCell ⟨gb439, 1, none⟩ (.int .i64 t437)) from by repeat (first | (with_reducible first | exact HB.out | refine below_set ?_ GE439.out) | exact HB.out)); generalize ((w12.setCell ⟨gb439, 0, none⟩ (.int .i64 t436)).setCell ⟨gb439, 1, none⟩ (.int .i64 t437)) = wz_ at gO_ gBgb439_ gH_ ⊢; (with_reducible refine (cursor_New.calls _ _ t433 t440 t441 t442 t443 t444 t445 t446 wz_ _ ?side1 ?side2 ?side3 A3.out).mono ?_); (case side1 => repeat (first | exact Below.refl _ _ | apply pw_below_drewN)); (case side2 => exact (Kd.R_reads' gO_).2.2); (case side3 => exact (Kd.R_reads' HO435.out).2.1); rintro e w15 ⟨g447, rfl, hi, hb, hb2⟩; refine ⟨_, rfl, ?_⟩; have HB0_ := Aside0.mk gH_; have n0_ := Aside0.mk (Kd.R_below (by (with_reducible repeat apply Kd.R_drewN); exact gO_) hb2); have n1_ := Aside0.mk (blk_below (g := gb439) (o := .cells #[.int .i64 t436, .int .i64 t437] 25 (0, 0)) gBgb439_ hb2); have n2_ := Aside0.mk (hb); have n3_ := Aside0.mk (hi); have n4_ := Aside0.mk (IsS48.ne_blk hi (blk_below (g := gb439) (o := .cells #[.int .i64 t436, .int .i64 t437] 25 (0, 0)) gBgb439_ hb2) (by decide)); have n5_ := Aside0.mk (Ne.symm (IsS48.ne_blk hi (blk_below (g := gb439) (o := .cells #[.int .i64 t436, .int .i64 t437] 25 (0, 0)) gBgb439_ hb2) (by decide))); clear HO435 BK439 HB; have HO435 := n0_; have BK439 := n1_; have HB := n2_; have HI447 := n3_; have NB447_439 := n4_; have NB439_447 := n5_; clear n0_ n1_ n2_ n3_ n4_ n5_; (try clear hb)) | ((with_reducible refine gate_callee (f := 33) rfl ?_); refine goesL_ (some 21) rfl rfl Try.func33 (by kernel_rfl) rfl #[.pointer (some ⟨g447, 0, none⟩)] rfl (by (try simp only [List.map_toArray, List.map_cons, List.map_nil]); first | done | rfl | (simp only [List.length_drop, List.length_take]; rfl)) ?_; (with_reducible refine (length_Read.calls k g447 t440 t441 t442 t443 t444 t445 t446 t448 t449 t450 t451 t452 t453 t454 t455 t456 wz_ _ ?side1 ?side2 A4.out).mono ?_); (case side1 => repeat (first | (with_reducible first | exact HI447.out | apply IsS48.alloc | apply IsS48.drewN | apply IsS48.drew | refine IsS48.far ?_ NB447_439.out _ | apply IsS48.set_0 | apply IsS48.set_2 | apply IsS48.set_3 | apply IsS48.set_4 | apply IsS48.set_5 | apply IsS48.set_6) | exact HI447.out)); (case side2 => repeat (first | (with_reducible first | exact HB.out | apply pw_below_drewN | refine below_set ?_ (IsS48.ge HI447.out) | refine below_set ?_ GE439.out) | exact HB.out)); rintro e w16 ⟨rfl, hi, hb, hk⟩; refine ⟨_, rfl, ?_⟩; have n0_ := Aside0.mk (Kd.R_mono (Kd.R_keep (IsS48.apart (show IsS48 wz_ _ g447 t440 t441 t442 t443 t444 t445 t446 from by repeat (first | (with_reducible first | exact HI447.out | apply IsS48.alloc | apply IsS48.drewN | apply IsS48.drew | refine IsS48.far ?_ NB447_439.out _ | apply IsS48.set_0 | apply IsS48.set_2 | apply IsS48.set_3 | apply IsS48.set_4 | apply IsS48.set_5 | apply IsS48.set_6) | exact HI447.out)) (by (with_reducible repeat apply Kd.R_drewN); exact HO435.out) (by decide)) hk (fun _ h => h.2)) (fun _ h => h.1)); have n1_ := Aside0.mk (KeepBut.blk hk (g' := gb439) (o := .cells #[.int .i64 t436, .int .i64 t437] 25 (0, 0)) (by (with_reducible repeat refine blk_drewN ?_ _); exact BK439.out) NB439_447.out (by simp)); have n2_ := Aside0.mk (hb); have n3_ := Aside0.mk (hi); clear HO435 BK439 HB HI447; have HO435 := n0_; have BK439 := n1_; have HB := n2_; have HI447 := n3_; clear n0_ n1_ n2_ n3_; (try clear hb)) | ((with_reducible refine gate_dst (N := 6) rfl ?_); refine box_event ?hg (N := 6) ?hd (cs := #[.int .i64 0, .int .i64 0]) (t := 60) ?hr ?_; (case hd => rfl); (case hg => rfl); (case hr => first | (go_simp; done) | (go_simp; rfl)); intro gb457 hg w17 hbox hb; have n0_ := Aside0.mk (Kd.R_below (by (with_reducible repeat apply Kd.R_drewN); exact HO435.out) hb); have n1_ := Aside0.mk (blk_below (g := gb439) (by exact BK439.out) hb); have n2_ := Aside0.mk (IsS48.below (by repeat (first | (with_reducible first | exact HI447.out | apply IsS48.alloc | apply IsS48.drewN | apply IsS48.drew | refine IsS48.far ?_ NB447_439.out _ | apply IsS48.set_0 | apply IsS48.set_2 | apply IsS48.set_3 | apply IsS48.set_4 | apply IsS48.set_5 | apply IsS48.set_6) | exact HI447.out)) hb); have n3_ := Aside0.mk (below_step (by repeat (first | (with_reducible first | exact HB.out | apply pw_below_drewN | refine below_set ?_ (IsS48.ge HI447.out) | refine below_set ?_ GE439.out) | exact HB.out)) hb); have n4_ := Aside0.mk (hbox); have n5_ := Aside0.mk ((by rw [hg]; exact (below_size (by repeat (first | (with_reducible first | exact HB.out | apply pw_below_drewN | refine below_set ?_ (IsS48.ge HI447.out) | refine below_set ?_ GE439.out) | exact HB.out))) : wz_.heap.size ≤ gb457)); have n6_ := n5_; have n7_ := Aside0.mk ((by rw [hg]; exact Nat.ne_of_lt (blk_lt (g := gb439) (o := .cells #[.int .i64 t436, .int .i64 t437] 25 (0, 0)) (by (with_reducible repeat refine blk_drewN ?_ _); exact BK439.out)) : gb439 ≠ gb457)); have n8_ := Aside0.mk ((by rw [hg]; exact Nat.ne_of_gt (blk_lt (g := gb439) (o := .cells #[.int .i64 t436, .int .i64 t437] 25 (0, 0)) (by (with_reducible repeat refine blk_drewN ?_ _); exact BK439.out)) : gb457 ≠ gb439)); have n9_ := Aside0.mk ((by rw [hg]; exact Nat.ne_of_lt (IsS48.lt (show IsS48 wz_ _ g447 t450 t451 t452 t453 t454 t455 t456 from by repeat (first | (with_reducible first | exact HI447.out | apply IsS48.alloc | apply IsS48.drewN | apply IsS48.drew | refine IsS48.far ?_ NB447_439.out _ | apply IsS48.set_0 | apply IsS48.set_2 | apply IsS48.set_3 | apply IsS48.set_4 | apply IsS48.set_5 | apply IsS48.set_6) | exact HI447.out))) : g447 ≠ gb457)); have n10_ := Aside0.mk ((by rw [hg]; exact Nat.ne_of_gt (IsS48.lt (show IsS48 wz_ _ g447 t450 t451 t452 t453 t454 t455 t456 from by repeat (first | (with_reducible first | exact HI447.out | apply IsS48.alloc | apply IsS48.drewN | apply IsS48.drew | refine IsS48.far ?_ NB447_439.out _ | apply IsS48.set_0 | apply IsS48.set_2 | apply IsS48.set_3 | apply IsS48.set_4 | apply IsS48.set_5 | apply IsS48.set_6) | exact HI447.out))) : gb457 ≠ g447)); clear HO435 BK439 HI447 HB; have HO435 := n0_; have BK439 := n1_; have HI447 := n2_; have HB := n3_; have BK457 := n4_; have GW457 := n5_; have GE457 := n6_; have NB439_457 := n7_; have NB457_439 := n8_; have NB447_457 := n9_; have NB457_447 := n10_; clear n0_ n1_ n2_ n3_ n4_ n5_ n6_ n7_ n8_ n9_ n10_; clear hb hbox hg; have hnb18 := NB457_439.out; have hnc18 := NB439_457.out; have hnb19 := NB457_447.out; have hnc19 := NB447_457.out; have hcz20_0 : w17.cell? ⟨gb457, 0, none⟩ = some (.int .i64 0) := (blk_cell BK457.out 0).trans rfl; have hcz20_1 : w17.cell? ⟨gb457, 1, none⟩ = some (.int .i64 0) := (blk_cell BK457.out 1).trans rfl; have hfz20_0 := blk_frozen BK457.out 0; have hfz20_1 := blk_frozen BK457.out 1) | ((with_reducible refine gate_callee (f := 29) rfl ?_); refine goesL_ (some 24) rfl rfl Try.func29 (by kernel_rfl) rfl #[.agg #[.int .i64 t448, .int .i64 t449]] rfl (by (try simp only [List.map_toArray, List.map_cons, List.map_nil]); first | done | rfl | (simp only [List.length_drop, List.length_take]; rfl)) ?_; (with_reducible refine (length_Put.calls k t448 t449 t458 t459 _ A5.out).mono ?_); rintro e w21 ⟨rfl, hb⟩; refine ⟨_, rfl, ?_⟩; have n0_ := Aside0.mk (Kd.R_below (by (with_reducible repeat apply Kd.R_drewN); exact (Kd.R_mono (Kd.R_far (p := ⟨gb457, 1, none⟩) (Kd.R_far (p := ⟨gb457, 0, none⟩) (Kd.R_types HO435.out BK457.out (by decide)) (fun _ hk => hk.2) (.int .i64 t448)) (fun _ hk => hk.2) (.int .i64 t449)) (fun _ h_ => h_.1))) hb); have n1_ := Aside0.mk (blk_below (g := gb439) (o := .cells #[.int .i64 t436, .int .i64 t437] 25 (0, 0)) (by (with_reducible repeat refine blk_drewN ?_ _); refine blk_far ?_ NB439_457.out _; (with_reducible repeat refine blk_drewN ?_ _); refine blk_far ?_ NB439_457.out _; (with_reducible repeat refine blk_drewN ?_ _); exact BK439.out) hb); have n2_ := Aside0.mk (IsS48.below (show IsS48 wz_ ((w17.setCell ⟨gb457, 0, none⟩ (.int .i64 t448)).setCell ⟨gb457, 1, none⟩ (.int .i64 t449)) g447 t450 t451 t452 t453 t454 t455 t456 from by repeat (first | (with_reducible first | exact HI447.out | apply IsS48.alloc | apply IsS48.drewN | apply IsS48.drew | refine IsS48.far ?_ NB447_439.out _ | refine IsS48.far ?_ NB447_457.out _ | apply IsS48.set_0 | apply IsS48.set_2 | apply IsS48.set_3 | apply IsS48.set_4 | apply IsS48.set_5 | apply IsS48.set_6) | exact HI447.out)) hb); have n3_ := Aside0.mk (blk_below (g := gb457) (o := .cells #[.int .i64 t448, .int .i64 t449] 60 (0, 0)) (by (with_reducible repeat refine blk_drewN ?_ _); refine blk_put (cs := #[.int .i64 t448, .int .i64 0]) ?_ 1 _ rfl; (with_reducible repeat refine blk_drewN ?_ _); refine blk_put (cs := #[.int .i64 0, .int .i64 0]) ?_ 0 _ rfl; (with_reducible repeat refine blk_drewN ?_ _); exact BK457.out) hb); have n4_ := Aside0.mk (below_step (by repeat (first | (with_reducible first | exact HB.out | apply pw_below_drewN | refine below_set ?_ (IsS48.ge HI447.out) | refine below_set ?_ GE439.out | refine below_set ?_ GE457.out) | exact HB.out)) hb); clear HO435 BK439 HI447 BK457 HB; have HO435 := n0_; have BK439 := n1_; have HI447 := n2_; have BK457 := n3_; have HB := n4_; clear n0_ n1_ n2_ n3_ n4_; (try clear hb); have hcz22_0 : w21.cell? ⟨gb457, 0, none⟩ = some (.int .i64 t448) := (blk_cell BK457.out 0).trans rfl; have hcz22_1 : w21.cell? ⟨gb457, 1, none⟩ = some (.int .i64 t449) := (blk_cell BK457.out 1).trans rfl; have hfz22_0 := blk_frozen BK457.out 0; have hfz22_1 := blk_frozen BK457.out 1))
     go_ret
     exact ⟨by first | rfl | (simp [*] <;> rfl), below_step HB0_.out (by repeat (first | (with_reducible first | exact HB.out | apply pw_below_drewN | refine below_set ?_ (IsS48.ge HI447.out) | refine below_set ?_ GE439.out | refine below_set ?_ GE457.out) | exact HB.out))⟩
    ·rw [if_neg c9] at H
     exact absurd H (by simp)
   ·rw [if_neg c8] at H
    exact absurd H (by simp)
  ·rw [if_neg c7] at H
   exact absurd H (by simp)
 ·rw [if_neg c6] at H
  exact absurd H (by simp)

end Go.Proofs.Ytnmmhfpekeeedaa.PR
