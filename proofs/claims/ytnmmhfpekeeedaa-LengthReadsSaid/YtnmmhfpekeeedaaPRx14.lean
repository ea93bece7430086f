/- Go functions of this seat as plain Lean functions, each with a proof that its call comes to just what that function says, wherever that function says anything: written by a program of this session. -/
import Derived.Test.YtnmmhfpekeeedaaPRx0
import Derived.Test.YtnmmhfpekeeedaaPRx12
import Derived.Test.YtnmmhfpekeeedaaPRx13
namespace Go.Proofs.Ytnmmhfpekeeedaa.PR
open Go.RowKit Go.Proofs.YtnmmhfpekeeedaaW.PrintWords Go.Proofs.YtnmmhfpekeeedaaW.PrintLast Go.Proofs.YtnmmhfpekeeedaaW.PrintMore
attribute [local go_sem] max2_int min2_int max_two min_two max_three min_three max_four min_four   -- for this text's walks alone
set_option linter.unusedVariables false
set_option linter.unusedSimpArgs false

attribute [local go_sem] isSome_setCell
/-! ### regimenref14_Read: function 35 -/
mutual
def regimenref14_Read.l0 : Nat → Int → List ByteArray → Int → List (S34) → Int → Int → Int → Int → Option ((List (S34)) × Int × Int × Int × Int × Int × Int)
 | 0, _, _, _, _, _, _, _, _ => none
 | k + 1, x6, x7, x8, x548000, x548001, x548002, x548003, x548004 => if x8 < 3 then (if x8 = 2 then (regimenref14_Read.j1 k x6 x7 x8 4 x548000 x548001 x548002 x548003 x548004) else (regimenref14_Read.j1 k x6 x7 x8 1 x548000 x548001 x548002 x548003 x548004)) else ((regimenref13_Fail.f x548000 x548001 x548002 x548003 x548004 2).bind fun bt559 => (some (bt559.1, bt559.2.1, bt559.2.2.1, bt559.2.2.2.1, bt559.2.2.2.2, 0, 0)))
def regimenref14_Read.j1 : Nat → Int → List ByteArray → Int → Int → List (S34) → Int → Int → Int → Int → Option ((List (S34)) × Int × Int × Int × Int × Int × Int)
 | 0, _, _, _, _, _, _, _, _, _ => none
 | k + 1, x6, x7, x8, x9, x548000, x548001, x548002, x548003, x548004 => if 0 ≤ x8 then (if x8 < (x7.length : Int) then ((regimenref13_Take.f x548000 x548001 x548002 x548003 x548004 x9 (rdOf ByteArray.empty x7 x8)).bind fun bt567 => (if bt567.2.2.2.2.2 = true then (if x8 = 2 then (regimenref14_Read.j2 k x6 x7 x8 bt567.2.2.2.2.2 (decide (x6 > 100)) x548000 x548001 x548002 x548003 x548004 bt567.1 bt567.2.1 bt567.2.2.1 bt567.2.2.2.1 bt567.2.2.2.2.1) else (regimenref14_Read.j2 k x6 x7 x8 bt567.2.2.2.2.2 false x548000 x548001 x548002 x548003 x548004 bt567.1 bt567.2.1 bt567.2.2.1 bt567.2.2.2.1 bt567.2.2.2.2.1)) else (regimenref14_Read.j2 k x6 x7 x8 bt567.2.2.2.2.2 false x548000 x548001 x548002 x548003 x548004 bt567.1 bt567.2.1 bt567.2.2.1 bt567.2.2.2.1 bt567.2.2.2.2.1))) else (none)) else (none)
def regimenref14_Read.j2 : Nat → Int → List ByteArray → Int → Bool → Bool → List (S34) → Int → Int → Int → Int → List (S34) → Int → Int → Int → Int → Option ((List (S34)) × Int × Int × Int × Int × Int × Int)
 | 0, _, _, _, _, _, _, _, _, _, _, _, _, _, _, _ => none
 | k + 1, x6, x7, x8, x11, x50, x548000, x548001, x548002, x548003, x548004, x576000, x576001, x576002, x576003, x576004 => if x50 = true then ((regimenref13_Fail.f x548000 x548001 x548002 x548003 x548004 3).bind fun bt576 => (some (bt576.1, bt576.2.1, bt576.2.2.1, bt576.2.2.2.1, bt576.2.2.2.2, 0, 0))) else (if x11 = true then (some (x576000, x576001, x576002, x576003, x576004, x8, x6)) else (regimenref14_Read.l0 k x6 x7 (wrap64 (x8 + 1)) x548000 x548001 x548002 x548003 x548004))
end
def regimenref14_Read.f (k : Nat) (l0_0 : List (S34)) (a0_1 : Int) (a0_2 : Int) (a0_3 : Int) (a0_4 : Int) : Option ((List (S34)) × Int × Int × Int × Int × Int × Int) := (regimenref13_Take.f l0_0 a0_1 a0_2 a0_3 a0_4 1 (⟨#[114, 101, 115, 116]⟩ : ByteArray)).bind fun bt539 => (if bt539.2.2.2.2.2 = true then (some (bt539.1, bt539.2.1, bt539.2.2.1, bt539.2.2.2.1, bt539.2.2.2.2.1, 3, 0)) else ((regimenref13_Count.f k l0_0 a0_1 a0_2 a0_3 a0_4 0 1099511627776).bind fun bt548 => (regimenref14_Read.l0 k bt548.2.2.2.2.2 (([(⟨#[115, 116, 101, 112, 115]⟩ : ByteArray), (⟨#[101, 112, 111, 99, 104, 115]⟩ : ByteArray), (⟨#[37]⟩ : ByteArray)] : List ByteArray)) 0 bt548.1 bt548.2.1 bt548.2.2.1 bt548.2.2.2.1 bt548.2.2.2.2.1)))
theorem regimenref14_Read.mono_l : ∀ k, (∀ y0 y1 y2 y3 y4 y5 y6 y7, LeO (regimenref14_Read.l0 k y0 y1 y2 y3 y4 y5 y6 y7) (regimenref14_Read.l0 (k + 1) y0 y1 y2 y3 y4 y5 y6 y7)) ∧ (∀ y0 y1 y2 y3 y4 y5 y6 y7 y8, LeO (regimenref14_Read.j1 k y0 y1 y2 y3 y4 y5 y6 y7 y8) (regimenref14_Read.j1 (k + 1) y0 y1 y2 y3 y4 y5 y6 y7 y8)) ∧ (∀ y0 y1 y2 y3 y4 y5 y6 y7 y8 y9 y10 y11 y12 y13 y14, LeO (regimenref14_Read.j2 k y0 y1 y2 y3 y4 y5 y6 y7 y8 y9 y10 y11 y12 y13 y14) (regimenref14_Read.j2 (k + 1) y0 y1 y2 y3 y4 y5 y6 y7 y8 y9 y10 y11 y12 y13 y14))
 | 0 => ⟨fun _ _ _ _ _ _ _ _ r h => by simp [regimenref14_Read.l0] at h, fun _ _ _ _ _ _ _ _ _ r h => by simp [regimenref14_Read.j1] at h, fun _ _ _ _ _ _ _ _ _ _ _ _ _ _ _ r h => by simp [regimenref14_Read.j2] at h⟩
 | k + 1 => by
  obtain ⟨ih0, ih1, ih2⟩ := regimenref14_Read.mono_l k
  refine ⟨?_, ?_, ?_⟩
  ·intro y0 y1 y2 y3 y4 y5 y6 y7
   unfold regimenref14_Read.l0
   repeat' first
   | (with_reducible exact ih0 _ _ _ _ _ _ _ _)
   | (with_reducible exact ih1 _ _ _ _ _ _ _ _ _)
   | (with_reducible exact ih2 _ _ _ _ _ _ _ _ _ _ _ _ _ _ _)
   | (with_reducible exact regimenref13_Count.mono _ _ _ _ _ _ _ _)
   | (with_reducible exact LeO.refl _)
   | (with_reducible exact LeO.none _)
   | (with_reducible refine LeO.ite ?_ ?_)
   | (with_reducible refine LeO.bind ?_ (fun _ => ?_))
   | exact ih0 _ _ _ _ _ _ _ _
   | exact ih1 _ _ _ _ _ _ _ _ _
   | exact ih2 _ _ _ _ _ _ _ _ _ _ _ _ _ _ _
   | exact regimenref13_Count.mono _ _ _ _ _ _ _ _
   | exact LeO.none _
   | refine LeO.ite ?_ ?_
   | refine LeO.bind ?_ (fun _ => ?_)
  ·intro y0 y1 y2 y3 y4 y5 y6 y7 y8
   unfold regimenref14_Read.j1
   repeat' first
   | (with_reducible exact ih0 _ _ _ _ _ _ _ _)
   | (with_reducible exact ih1 _ _ _ _ _ _ _ _ _)
   | (with_reducible exact ih2 _ _ _ _ _ _ _ _ _ _ _ _ _ _ _)
   | (with_reducible exact regimenref13_Count.mono _ _ _ _ _ _ _ _)
   | (with_reducible exact LeO.refl _)
   | (with_reducible exact LeO.none _)
   | (with_reducible refine LeO.ite ?_ ?_)
   | (with_reducible refine LeO.bind ?_ (fun _ => ?_))
   | exact ih0 _ _ _ _ _ _ _ _
   | exact ih1 _ _ _ _ _ _ _ _ _
   | exact ih2 _ _ _ _ _ _ _ _ _ _ _ _ _ _ _
   | exact regimenref13_Count.mono _ _ _ _ _ _ _ _
   | exact LeO.none _
   | refine LeO.ite ?_ ?_
   | refine LeO.bind ?_ (fun _ => ?_)
  ·intro y0 y1 y2 y3 y4 y5 y6 y7 y8 y9 y10 y11 y12 y13 y14
   unfold regimenref14_Read.j2
   repeat' first
   | (with_reducible exact ih0 _ _ _ _ _ _ _ _)
   | (with_reducible exact ih1 _ _ _ _ _ _ _ _ _)
   | (with_reducible exact ih2 _ _ _ _ _ _ _ _ _ _ _ _ _ _ _)
   | (with_reducible exact regimenref13_Count.mono _ _ _ _ _ _ _ _)
   | (with_reducible exact LeO.refl _)
   | (with_reducible exact LeO.none _)
   | (with_reducible refine LeO.ite ?_ ?_)
   | (with_reducible refine LeO.bind ?_ (fun _ => ?_))
   | exact ih0 _ _ _ _ _ _ _ _
   | exact ih1 _ _ _ _ _ _ _ _ _
   | exact ih2 _ _ _ _ _ _ _ _ _ _ _ _ _ _ _
   | exact regimenref13_Count.mono _ _ _ _ _ _ _ _
   | exact LeO.none _
   | refine LeO.ite ?_ ?_
   | refine LeO.bind ?_ (fun _ => ?_)
theorem regimenref14_Read.mono : ∀ a0 a1 a2 a3 a4 k, LeO (regimenref14_Read.f k a0 a1 a2 a3 a4) (regimenref14_Read.f (k + 1) a0 a1 a2 a3 a4) := by
 intro a0 a1 a2 a3 a4 k
 obtain ⟨ih0, ih1, ih2⟩ := regimenref14_Read.mono_l k
 unfold regimenref14_Read.f
 repeat' first
   | (with_reducible exact ih0 _ _ _ _ _ _ _ _)
   | (with_reducible exact ih1 _ _ _ _ _ _ _ _ _)
   | (with_reducible exact ih2 _ _ _ _ _ _ _ _ _ _ _ _ _ _ _)
   | (with_reducible exact regimenref13_Count.mono _ _ _ _ _ _ _ _)
   | (with_reducible exact LeO.refl _)
   | (with_reducible exact LeO.none _)
   | (with_reducible refine LeO.ite ?_ ?_)
   | (with_reducible refine LeO.bind ?_ (fun _ => ?_))
   | exact ih0 _ _ _ _ _ _ _ _
   | exact ih1 _ _ _ _ _ _ _ _ _
   | exact ih2 _ _ _ _ _ _ _ _ _ _ _ _ _ _ _
   | exact regimenref13_Count.mono _ _ _ _ _ _ _ _
   | exact LeO.none _
   | refine LeO.ite ?_ ?_
   | refine LeO.bind ?_ (fun _ => ?_)
def regimenref14_Read.T12 : Bool × List (List Nat × List Nat) := (true, [([], []), ([], []), ([], []), ([], []), ([2, 3], [2, 3]), ([4], [4]), ([0, 1, 5], [0, 1, 5]), ([6], [6]), ([7], [7]), ([7], [7]), ([], []), ([10, 8, 6, 0, 1, 2, 3, 4, 5, 6, 7, 8, 10], [8, 10]), ([9, 11, 0, 1, 2, 3, 4, 5, 6, 7, 8, 9, 10, 11], [9])])
def regimenref14_Read.B12 : List Nat := [0, 0, 0, 0, 12, 28, 63, 127, 255, 255, 0, 1535, 4095]
theorem regimenref14_Read.tab12 : rtab .any (opsOf Try.f35 12) = regimenref14_Read.T12 := by kernel_rfl
theorem regimenref14_Read.bits12 : waitsOk regimenref14_Read.T12.2 regimenref14_Read.B12 = true := by kernel_rfl
set_option maxHeartbeats 8000000 in
set_option maxRecDepth 100000 in
theorem regimenref14_Read.calls (k : Nat) (P0_0_ : Nat → Prop) (A0_0 : Option Addr) (c0_0 : Nat) (l0_0 : List (S34)) (a0_1 : Int) (a0_2 : Int) (a0_3 : Int) (a0_4 : Int) (r1 : List (S34)) (r2 : Int) (r3 : Int) (r4 : Int) (r5 : Int) (r6 : Int) (r7 : Int) (w : World) (hs0_0 : Kd.V k34 34 w w.heap.size (fun k_ => P0_0_ k_) (.slice A0_0 l0_0.length c0_0) l0_0) (h : regimenref14_Read.f k l0_0 a0_1 a0_2 a0_3 a0_4 = some (r1, r2, r3, r4, r5, r6, r7)) :
  Calls Try.prog 35 #[.agg #[.slice A0_0 l0_0.length c0_0, .int .i64 a0_1, .int .i64 a0_2, .int .i64 a0_3, .int .i64 a0_4]] w fun e w' => ∃ v0_ : Value, e = .returned (.tuple #[.agg #[v0_, .int .i64 r2, .int .i64 r3, .int .i64 r4, .int .i64 r5], .agg #[.int .i64 r6, .int .i64 r7]]) ∧ Kd.V k34 34 w' w.heap.size (fun k_ => (P0_0_ k_ ∨ w.heap.size ≤ k_)) v0_ r1 ∧ Below w.heap.size w w' := by
 have hu68 := Try.underlying68
 have hu60 := Try.underlying60
 have HO0_0 := Aside0.mk (show Kd.V k34 34 w w.heap.size (fun k_ => (P0_0_ k_ ∨ w.heap.size ≤ k_)) (.slice A0_0 l0_0.length c0_0) l0_0 from Kd.V_mono hs0_0 (fun k_ hk => .inl hk))
 have HB := Aside0.mk (Below.refl w.heap.size w)
 have H : ((regimenref13_Take.f l0_0 a0_1 a0_2 a0_3 a0_4 1 (⟨#[114, 101, 115, 116]⟩ : ByteArray)).bind fun bt539 => (if bt539.2.2.2.2.2 = true then (some (bt539.1, bt539.2.1, bt539.2.2.1, bt539.2.2.2.1, bt539.2.2.2.2.1, 3, 0)) else ((regimenref13_Count.f k l0_0 a0_1 a0_2 a0_3 a0_4 0 1099511627776).bind fun bt548 => (regimenref14_Read.l0 k bt548.2.2.2.2.2 (([(⟨#[115, 116, 101, 112, 115]⟩ : ByteArray), (⟨#[101, 112, 111, 99, 104, 115]⟩ : ByteArray), (⟨#[37]⟩ : ByteArray)] : List ByteArray)) 0 bt548.1 bt548.2.1 bt548.2.2.1 bt548.2.2.2.1 bt548.2.2.2.2.1)))) = some (r1, r2, r3, r4, r5, r6, r7) := h
 clear h
 replace H := Option.bind_eq_some_iff.mp H
 obtain ⟨⟨t539, t542, t543, t544, t545, t546⟩, A20, H⟩ := H
 replace H : (if t546 = true then (some (t539, t542, t543, t544, t545, 3, 0)) else ((regimenref13_Count.f k l0_0 a0_1 a0_2 a0_3 a0_4 0 1099511627776).bind fun bt548 => (regimenref14_Read.l0 k bt548.2.2.2.2.2 (([(⟨#[115, 116, 101, 112, 115]⟩ : ByteArray), (⟨#[101, 112, 111, 99, 104, 115]⟩ : ByteArray), (⟨#[37]⟩ : ByteArray)] : List ByteArray)) 0 bt548.1 bt548.2.1 bt548.2.2.1 bt548.2.2.2.1 bt548.2.2.2.2.1))) = some (r1, r2, r3, r4, r5, r6, r7) := H
 have A2 := Aside0.mk A20
 clear A20
 by_cases c3 : t546 = true
 ·subst c3
  have H1 : (some (t539, t542, t543, t544, t545, 3, 0)) = some (r1, r2, r3, r4, r5, r6, r7) := by rw [if_pos rfl] at H; exact H
  clear H
  have H := H1
  clear H1
  simp only [Option.some.injEq, Prod.mk.injEq] at H
  obtain ⟨rfl, rfl, rfl, rfl, rfl, rfl, rfl⟩ := H
  go_enter Try.func35, Try.ntmps35
  go_wp2_with (first | ((with_reducible refine gate_dst (N := 1) rfl ?_); refine box_event ?hg (N := 1) ?hd (cs := #[.slice A0_0 l0_0.length c0_0, .int .i64 a0_1, .int .i64 a0_2, .int .i64 a0_3, .int .i64 a0_4]) (t := 68) ?hr ?_; (case hd => rfl); (case hg => rfl); (case hr => first | (go_simp; done) | (go_simp; rfl)); intro gb536 hg w4 hbox hb; have n0_ := Aside0.mk (Kd.V_below (Kd.V_elderB (by (with_reducible repeat apply Kd.V_drewN); exact HO0_0.out) gb536 (Nat.le_of_eq hg.symm)) hb); have n1_ := Aside0.mk (below_step (by repeat (first | (with_reducible first | exact HB.out | apply pw_below_drewN) | exact HB.out)) hb); have n2_ := Aside0.mk (hbox); have n3_ := Aside0.mk ((by rw [hg]; exact (below_size (by repeat (first | (with_reducible first | exact HB.out | apply pw_below_drewN) | exact HB.out))) : w.heap.size ≤ gb536)); have n4_ := n3_; clear HO0_0 HB; have HO0_0 := n0_; have HB := n1_; have BK536 := n2_; have GW536 := n3_; have GE536 := n4_; clear n0_ n1_ n2_ n3_ n4_; clear hb hbox hg) | ((with_reducible refine gate_dst (N := 2) rfl ?_); refine box_event ?hg (N := 2) ?hd (cs := #[.slice none 0 0, .int .i64 0, .int .i64 0, .int .i64 0, .int .i64 0]) (t := 68) ?hr ?_; (case hd => rfl); (case hg => rfl); (case hr => first | (go_simp; done) | (go_simp; rfl)); intro gb537 hg w5 hbox hb; have n0_ := Aside0.mk (Kd.V_below (Kd.V_elderB (by (with_reducible repeat apply Kd.V_drewN); exact HO0_0.out) gb537 (Nat.le_of_eq hg.symm)) hb); have n1_ := Aside0.mk (blk_below (g := gb536) (by exact BK536.out) hb); have n2_ := Aside0.mk (below_step (by repeat (first | (with_reducible first | exact HB.out | apply pw_below_drewN | refine below_set ?_ GE536.out) | exact HB.out)) hb); have n3_ := Aside0.mk (hbox); have n4_ := Aside0.mk ((by rw [hg]; exact (below_size (by repeat (first | (with_reducible first | exact HB.out | apply pw_below_drewN | refine below_set ?_ GE536.out) | exact HB.out))) : w.heap.size ≤ gb537)); have n5_ := n4_; have n6_ := Aside0.mk ((by rw [hg]; exact Nat.ne_of_lt (blk_lt (g := gb536) (o := .cells #[.slice A0_0 l0_0.length c0_0, .int .i64 a0_1, .int .i64 a0_2, .int .i64 a0_3, .int .i64 a0_4] 68 (0, 0)) (by (with_reducible repeat refine blk_drewN ?_ _); exact BK536.out)) : gb536 ≠ gb537)); have n7_ := Aside0.mk ((by rw [hg]; exact Nat.ne_of_gt (blk_lt (g := gb536) (o := .cells #[.slice A0_0 l0_0.length c0_0, .int .i64 a0_1, .int .i64 a0_2, .int .i64 a0_3, .int .i64 a0_4] 68 (0, 0)) (by (with_reducible repeat refine blk_drewN ?_ _); exact BK536.out)) : gb537 ≠ gb536)); clear HO0_0 BK536 HB; have HO0_0 := n0_; have BK536 := n1_; have HB := n2_; have BK537 := n3_; have GW537 := n4_; have GE537 := n5_; have NB536_537 := n6_; have NB537_536 := n7_; clear n0_ n1_ n2_ n3_ n4_ n5_ n6_ n7_; clear hb hbox hg) | ((with_reducible refine gate_dst (N := 3) rfl ?_); refine box_event ?hg (N := 3) ?hd (cs := #[.int .i64 0, .int .i64 0]) (t := 60) ?hr ?_; (case hd => rfl); (case hg => rfl); (case hr => first | (go_simp; done) | (go_simp; rfl)); intro gb538 hg w6 hbox hb; have n0_ := Aside0.mk (Kd.V_below (Kd.V_elderB (by (with_reducible repeat apply Kd.V_drewN); exact HO0_0.out) gb538 (Nat.le_of_eq hg.symm)) hb); have n1_ := Aside0.mk (blk_below (g := gb536) (by exact BK536.out) hb); have n2_ := Aside0.mk (blk_below (g := gb537) (by exact BK537.out) hb); have n3_ := Aside0.mk (below_step (by repeat (first | (with_reducible first | exact HB.out | apply pw_below_drewN | refine below_set ?_ GE536.out | refine below_set ?_ GE537.out) | exact HB.out)) hb); have n4_ := Aside0.mk (hbox); have n5_ := Aside0.mk ((by rw [hg]; exact (below_size (by repeat (first | (with_reducible first | exact HB.out | apply pw_below_drewN | refine below_set ?_ GE536.out | refine below_set ?_ GE537.out) | exact HB.out))) : w.heap.size ≤ gb538)); have n6_ := n5_; have n7_ := Aside0.mk ((by rw [hg]; exact Nat.ne_of_lt (blk_lt (g := gb536) (o := .cells #[.slice A0_0 l0_0.length c0_0, .int .i64 a0_1, .int .i64 a0_2, .int .i64 a0_3, .int .i64 a0_4] 68 (0, 0)) (by (with_reducible repeat refine blk_drewN ?_ _); exact BK536.out)) : gb536 ≠ gb538)); have n8_ := Aside0.mk ((by rw [hg]; exact Nat.ne_of_gt (blk_lt (g := gb536) (o := .cells #[.slice A0_0 l0_0.length c0_0, .int .i64 a0_1, .int .i64 a0_2, .int .i64 a0_3, .int .i64 a0_4] 68 (0, 0)) (by (with_reducible repeat refine blk_drewN ?_ _); exact BK536.out)) : gb538 ≠ gb536)); have n9_ := Aside0.mk ((by rw [hg]; exact Nat.ne_of_lt (blk_lt (g := gb537) (o := .cells #[.slice none 0 0, .int .i64 0, .int .i64 0, .int .i64 0, .int .i64 0] 68 (0, 0)) (by (with_reducible repeat refine blk_drewN ?_ _); exact BK537.out)) : gb537 ≠ gb538)); have n10_ := Aside0.mk ((by rw [hg]; exact Nat.ne_of_gt (blk_lt (g := gb537) (o := .cells #[.slice none 0 0, .int .i64 0, .int .i64 0, .int .i64 0, .int .i64 0] 68 (0, 0)) (by (with_reducible repeat refine blk_drewN ?_ _); exact BK537.out)) : gb538 ≠ gb537)); clear HO0_0 BK536 BK537 HB; have HO0_0 := n0_; have BK536 := n1_; have BK537 := n2_; have HB := n3_; have BK538 := n4_; have GW538 := n5_; have GE538 := n6_; have NB536_538 := n7_; have NB538_536 := n8_; have NB537_538 := n9_; have NB538_537 := n10_; clear n0_ n1_ n2_ n3_ n4_ n5_ n6_ n7_ n8_ n9_ n10_; clear hb hbox hg; have hnb7 := NB536_537.out; have hnc7 := NB537_536.out; have hnb8 := NB536_538.out; have hnc8 := NB538_536.out; have hcz9_0 : w6.cell? ⟨gb536, 0, none⟩ = some (.slice A0_0 l0_0.length c0_0) := (blk_cell BK536.out 0).trans rfl; have hcz9_1 : w6.cell? ⟨gb536, 1, none⟩ = some (.int .i64 a0_1) := (blk_cell BK536.out 1).trans rfl; have hcz9_2 : w6.cell? ⟨gb536, 2, none⟩ = some (.int .i64 a0_2) := (blk_cell BK536.out 2).trans rfl; have hcz9_3 : w6.cell? ⟨gb536, 3, none⟩ = some (.int .i64 a0_3) := (blk_cell BK536.out 3).trans rfl; have hcz9_4 : w6.cell? ⟨gb536, 4, none⟩ = some (.int .i64 a0_4) := (blk_cell BK536.out 4).trans rfl; have hfz9_0 := blk_frozen BK536.out 0; have hfz9_1 := blk_frozen BK536.out 1; have hfz9_2 := blk_frozen BK536.out 2; have hfz9_3 := blk_frozen BK536.out 3; have hfz9_4 := blk_frozen BK536.out 4) | ((with_reducible refine gate_callee (f := 68) rfl ?_); refine goesL_ (some 14) rfl rfl Try.func68 (by kernel_rfl) rfl #[.agg #[.slice A0_0 l0_0.length c0_0, .int .i64 a0_1, .int .i64 a0_2, .int .i64 a0_3, .int .i64 a0_4], .int .i64 1, .string (⟨#[114, 101, 115, 116]⟩ : ByteArray)] rfl (by (try simp only [List.map_toArray, List.map_cons, List.map_nil]); first | done | rfl | (simp only [List.length_drop, List.length_take]; rfl)) ?_; (with_reducible refine (regimenref13_Take.calls (fun k_ => ((((P0_0_ k_ ∨ w.heap.size ≤ k_) ∧ k_ ≠ gb536) ∧ k_ ≠ gb537) ∧ k_ ≠ gb538)) _ _ l0_0 a0_1 a0_2 a0_3 a0_4 1 (⟨#[114, 101, 115, 116]⟩ : ByteArray) t539 t542 t543 t544 t545 true _ ?side1 A2.out).mono ?_); (case side1 => first | exact HO0_0.out | exact Kd.V_mono HO0_0.out (fun k_ h_ => ⟨⟨h_.1, h_.2.1⟩, h_.2.2⟩)); rintro e w10 ⟨v540, rfl, ho0, hb⟩; refine ⟨_, rfl, ?_⟩; have n0_ := Aside0.mk (Kd.V_below (by (with_reducible repeat apply Kd.V_drewN); exact HO0_0.out) hb); have n1_ := Aside0.mk (Kd.V_lower (Kd.V_mono (ok' := fun k_ => (P0_0_ k_ ∨ w.heap.size ≤ k_) ∧ k_ ≠ gb536 ∧ k_ ≠ gb537 ∧ k_ ≠ gb538) ho0 (fun k_ hk_ => ⟨Or.elim hk_ (fun hs_ => hs_.1.1.1) (fun hn_ => (.inr (Nat.le_trans (below_size (by repeat (first | (with_reducible first | exact HB.out | apply pw_below_drewN | refine below_set ?_ GE536.out | refine below_set ?_ GE537.out | refine below_set ?_ GE538.out) | exact HB.out))) hn_))), Or.elim hk_ (fun hs_ => hs_.1.1.2) (fun hn_ => (Kd.freshB (g := gb536) (o := .cells #[.slice A0_0 l0_0.length c0_0, .int .i64 a0_1, .int .i64 a0_2, .int .i64 a0_3, .int .i64 a0_4] 68 (0, 0)) (by (with_reducible repeat refine blk_drewN ?_ _); exact BK536.out) k_ hn_)), Or.elim hk_ (fun hs_ => hs_.1.2) (fun hn_ => (Kd.freshB (g := gb537) (o := .cells #[.slice none 0 0, .int .i64 0, .int .i64 0, .int .i64 0, .int .i64 0] 68 (0, 0)) (by (with_reducible repeat refine blk_drewN ?_ _); exact BK537.out) k_ hn_)), Or.elim hk_ (fun hs_ => hs_.2) (fun hn_ => (Kd.freshB (g := gb538) (o := .cells #[.int .i64 0, .int .i64 0] 60 (0, 0)) (by (with_reducible repeat refine blk_drewN ?_ _); exact BK538.out) k_ hn_))⟩)) (below_size (by repeat (first | (with_reducible first | exact HB.out | apply pw_below_drewN | refine below_set ?_ GE536.out | refine below_set ?_ GE537.out | refine below_set ?_ GE538.out) | exact HB.out)))); have n2_ := Aside0.mk (blk_below (g := gb536) (by exact BK536.out) hb); have n3_ := Aside0.mk (blk_below (g := gb537) (by exact BK537.out) hb); have n4_ := Aside0.mk (blk_below (g := gb538) (by exact BK538.out) hb); have n5_ := Aside0.mk (below_step (by repeat (first | (with_reducible first | exact HB.out | apply pw_below_drewN | refine below_set ?_ GE536.out | refine below_set ?_ GE537.out | refine below_set ?_ GE538.out) | exact HB.out)) hb); clear HO0_0 BK536 BK537 BK538 HB; have HO0_0 := n0_; have HO541 := n1_; have BK536 := n2_; have BK537 := n3_; have BK538 := n4_; have HB := n5_; clear n0_ n1_ n2_ n3_ n4_ n5_; (try clear hb); (try clear ho0)) | ((with_reducible refine gate_dst (N := 4) rfl ?_); refine box_event ?hg (N := 4) ?hd (cs := #[.slice none 0 0, .int .i64 0, .int .i64 0, .int .i64 0, .int .i64 0]) (t := 68) ?hr ?_; (case hd => rfl); (case hg => rfl); (case hr => first | (go_simp; done) | (go_simp; rfl)); intro gb547 hg w11 hbox hb; have n0_ := Aside0.mk (Kd.V_below (Kd.V_elderB (by (with_reducible repeat apply Kd.V_drewN); exact HO0_0.out) gb547 (Nat.le_of_eq hg.symm)) hb); have n1_ := Aside0.mk (Kd.V_below (Kd.V_elderB (by (with_reducible repeat apply Kd.V_drewN); exact HO541.out) gb547 (Nat.le_of_eq hg.symm)) hb); have n2_ := Aside0.mk (blk_below (g := gb536) (by exact BK536.out) hb); have n3_ := Aside0.mk (blk_below (g := gb537) (by exact BK537.out) hb); have n4_ := Aside0.mk (blk_below (g := gb538) (by exact BK538.out) hb); have n5_ := Aside0.mk (below_step (by repeat (first | (with_reducible first | exact HB.out | apply pw_below_drewN | refine below_set ?_ GE536.out | refine below_set ?_ GE537.out | refine below_set ?_ GE538.out) | exact HB.out)) hb); have n6_ := Aside0.mk (hbox); have n7_ := Aside0.mk ((by rw [hg]; exact (below_size (by repeat (first | (with_reducible first | exact HB.out | apply pw_below_drewN | refine below_set ?_ GE536.out | refine below_set ?_ GE537.out | refine below_set ?_ GE538.out) | exact HB.out))) : w.heap.size ≤ gb547)); have n8_ := n7_; have n9_ := Aside0.mk ((by rw [hg]; exact Nat.ne_of_lt (blk_lt (g := gb536) (o := .cells #[.slice A0_0 l0_0.length c0_0, .int .i64 a0_1, .int .i64 a0_2, .int .i64 a0_3, .int .i64 a0_4] 68 (0, 0)) (by (with_reducible repeat refine blk_drewN ?_ _); exact BK536.out)) : gb536 ≠ gb547)); have n10_ := Aside0.mk ((by rw [hg]; exact Nat.ne_of_gt (blk_lt (g := gb536) (o := .cells #[.slice A0_0 l0_0.length c0_0, .int .i64 a0_1, .int .i64 a0_2, .int .i64 a0_3, .int .i64 a0_4] 68 (0, 0)) (by (with_reducible repeat refine blk_drewN ?_ _); exact BK536.out)) : gb547 ≠ gb536)); have n11_ := Aside0.mk ((by rw [hg]; exact Nat.ne_of_lt (blk_lt (g := gb537) (o := .cells #[.slice none 0 0, .int .i64 0, .int .i64 0, .int .i64 0, .int .i64 0] 68 (0, 0)) (by (with_reducible repeat refine blk_drewN ?_ _); exact BK537.out)) : gb537 ≠ gb547)); have n12_ := Aside0.mk ((by rw [hg]; exact Nat.ne_of_gt (blk_lt (g := gb537) (o := .cells #[.slice none 0 0, .int .i64 0, .int .i64 0, .int .i64 0, .int .i64 0] 68 (0, 0)) (by (with_reducible repeat refine blk_drewN ?_ _); exact BK537.out)) : gb547 ≠ gb537)); have n13_ := Aside0.mk ((by rw [hg]; exact Nat.ne_of_lt (blk_lt (g := gb538) (o := .cells #[.int .i64 0, .int .i64 0] 60 (0, 0)) (by (with_reducible repeat refine blk_drewN ?_ _); exact BK538.out)) : gb538 ≠ gb547)); have n14_ := Aside0.mk ((by rw [hg]; exact Nat.ne_of_gt (blk_lt (g := gb538) (o := .cells #[.int .i64 0, .int .i64 0] 60 (0, 0)) (by (with_reducible repeat refine blk_drewN ?_ _); exact BK538.out)) : gb547 ≠ gb538)); clear HO0_0 HO541 BK536 BK537 BK538 HB; have HO0_0 := n0_; have HO541 := n1_; have BK536 := n2_; have BK537 := n3_; have BK538 := n4_; have HB := n5_; have BK547 := n6_; have GW547 := n7_; have GE547 := n8_; have NB536_547 := n9_; have NB547_536 := n10_; have NB537_547 := n11_; have NB547_537 := n12_; have NB538_547 := n13_; have NB547_538 := n14_; clear n0_ n1_ n2_ n3_ n4_ n5_ n6_ n7_ n8_ n9_ n10_ n11_ n12_ n13_ n14_; clear hb hbox hg; obtain ⟨Ao12, co12, eo12⟩ := Kd.V_slice HO541.out; subst eo12; have hnb13 := NB547_536.out; have hnc13 := NB536_547.out; have hnb14 := NB547_537.out; have hnc14 := NB537_547.out; have hnb15 := NB547_538.out; have hnc15 := NB538_547.out; have hcz16_0 : w11.cell? ⟨gb547, 0, none⟩ = some (.slice none 0 0) := (blk_cell BK547.out 0).trans rfl; have hcz16_1 : w11.cell? ⟨gb547, 1, none⟩ = some (.int .i64 0) := (blk_cell BK547.out 1).trans rfl; have hcz16_2 : w11.cell? ⟨gb547, 2, none⟩ = some (.int .i64 0) := (blk_cell BK547.out 2).trans rfl; have hcz16_3 : w11.cell? ⟨gb547, 3, none⟩ = some (.int .i64 0) := (blk_cell BK547.out 3).trans rfl; have hcz16_4 : w11.cell? ⟨gb547, 4, none⟩ = some (.int .i64 0) := (blk_cell BK547.out 4).trans rfl; have hfz16_0 := blk_frozen BK547.out 0; have hfz16_1 := blk_frozen BK547.out 1; have hfz16_2 := blk_frozen BK547.out 2; have hfz16_3 := blk_frozen BK547.out 3; have hfz16_4 := blk_frozen BK547.out 4; have hnb17 := NB537_538.out; have hnc17 := NB538_537.out; have hcz18_0 : w11.cell? ⟨gb537, 0, none⟩ = some (.slice none 0 0) := (blk_cell BK537.out 0).trans rfl; have hcz18_1 : w11.cell? ⟨gb537, 1, none⟩ = some (.int .i64 0) := (blk_cell BK537.out 1).trans rfl; have hcz18_2 : w11.cell? ⟨gb537, 2, none⟩ = some (.int .i64 0) := (blk_cell BK537.out 2).trans rfl; have hcz18_3 : w11.cell? ⟨gb537, 3, none⟩ = some (.int .i64 0) := (blk_cell BK537.out 3).trans rfl; have hcz18_4 : w11.cell? ⟨gb537, 4, none⟩ = some (.int .i64 0) := (blk_cell BK537.out 4).trans rfl; have hfz18_0 := blk_frozen BK537.out 0; have hfz18_1 := blk_frozen BK537.out 1; have hfz18_2 := blk_frozen BK537.out 2; have hfz18_3 := blk_frozen BK537.out 3; have hfz18_4 := blk_frozen BK537.out 4; have hcz19_0 : w11.cell? ⟨gb538, 0, none⟩ = some (.int .i64 0) := (blk_cell BK538.out 0).trans rfl; have hcz19_1 : w11.cell? ⟨gb538, 1, none⟩ = some (.int .i64 0) := (blk_cell BK538.out 1).trans rfl; have hfz19_0 := blk_frozen BK538.out 0; have hfz19_1 := blk_frozen BK538.out 1))
  refine bodyPost_ret (results_cc rfl _ _ gb537 gb538 68 60 #[.slice Ao12 t539.length co12, .int .i64 t542, .int .i64 t543, .int .i64 t544, .int .i64 t545] #[.int .i64 3, .int .i64 0] (0, 0) (0, 0) _ _ rfl (by (with_reducible repeat refine blk_drewN ?_ _); refine blk_far ?_ NB537_538.out _; (with_reducible repeat refine blk_drewN ?_ _); refine blk_far ?_ NB537_538.out _; (with_reducible repeat refine blk_drewN ?_ _); refine blk_put (cs := #[.slice Ao12 t539.length co12, .int .i64 t542, .int .i64 t543, .int .i64 t544, .int .i64 0]) ?_ 4 _ rfl; (with_reducible repeat refine blk_drewN ?_ _); refine blk_put (cs := #[.slice Ao12 t539.length co12, .int .i64 t542, .int .i64 t543, .int .i64 0, .int .i64 0]) ?_ 3 _ rfl; (with_reducible repeat refine blk_drewN ?_ _); refine blk_put (cs := #[.slice Ao12 t539.length co12, .int .i64 t542, .int .i64 0, .int .i64 0, .int .i64 0]) ?_ 2 _ rfl; (with_reducible repeat refine blk_drewN ?_ _); refine blk_put (cs := #[.slice Ao12 t539.length co12, .int .i64 0, .int .i64 0, .int .i64 0, .int .i64 0]) ?_ 1 _ rfl; (with_reducible repeat refine blk_drewN ?_ _); refine blk_put (cs := #[.slice none 0 0, .int .i64 0, .int .i64 0, .int .i64 0, .int .i64 0]) ?_ 0 _ rfl; (with_reducible repeat refine blk_drewN ?_ _); refine blk_far ?_ NB537_547.out _; (with_reducible repeat refine blk_drewN ?_ _); refine blk_far ?_ NB537_547.out _; (with_reducible repeat refine blk_drewN ?_ _); refine blk_far ?_ NB537_547.out _; (with_reducible repeat refine blk_drewN ?_ _); refine blk_far ?_ NB537_547.out _; (with_reducible repeat refine blk_drewN ?_ _); refine blk_far ?_ NB537_547.out _; (with_reducible repeat refine blk_drewN ?_ _); exact BK537.out) Try.underlying68 rfl (by kernel_rfl) rfl (by (with_reducible repeat refine blk_drewN ?_ _); refine blk_put (cs := #[.int .i64 3, .int .i64 0]) ?_ 1 _ rfl; (with_reducible repeat refine blk_drewN ?_ _); refine blk_put (cs := #[.int .i64 0, .int .i64 0]) ?_ 0 _ rfl; (with_reducible repeat refine blk_drewN ?_ _); refine blk_far ?_ NB538_537.out _; (with_reducible repeat refine blk_drewN ?_ _); refine blk_far ?_ NB538_537.out _; (with_reducible repeat refine blk_drewN ?_ _); refine blk_far ?_ NB538_537.out _; (with_reducible repeat refine blk_drewN ?_ _); refine blk_far ?_ NB538_537.out _; (with_reducible repeat refine blk_drewN ?_ _); refine blk_far ?_ NB538_537.out _; (with_reducible repeat refine blk_drewN ?_ _); refine blk_far ?_ NB538_547.out _; (with_reducible repeat refine blk_drewN ?_ _); refine blk_far ?_ NB538_547.out _; (with_reducible repeat refine blk_drewN ?_ _); refine blk_far ?_ NB538_547.out _; (with_reducible repeat refine blk_drewN ?_ _); refine blk_far ?_ NB538_547.out _; (with_reducible repeat refine blk_drewN ?_ _); refine blk_far ?_ NB538_547.out _; (with_reducible repeat refine blk_drewN ?_ _); exact BK538.out) Try.underlying60 rfl (by kernel_rfl)) rfl ?_
  exact ⟨_, by first | rfl | (simp [*] <;> rfl), by (with_reducible repeat apply Kd.V_drewN); exact Kd.V_mono (Kd.V_far (p := ⟨gb538, 1, none⟩) (Kd.V_far (p := ⟨gb538, 0, none⟩) (Kd.V_far (p := ⟨gb537, 4, none⟩) (Kd.V_far (p := ⟨gb537, 3, none⟩) (Kd.V_far (p := ⟨gb537, 2, none⟩) (Kd.V_far (p := ⟨gb537, 1, none⟩) (Kd.V_far (p := ⟨gb537, 0, none⟩) (Kd.V_far (p := ⟨gb547, 4, none⟩) (Kd.V_far (p := ⟨gb547, 3, none⟩) (Kd.V_far (p := ⟨gb547, 2, none⟩) (Kd.V_far (p := ⟨gb547, 1, none⟩) (Kd.V_far (p := ⟨gb547, 0, none⟩) (Kd.V_mono (Kd.V_mono (Kd.V_mono HO541.out (fun k_ hk => (⟨hk, hk.2⟩ : _ ∧ k_ ≠ gb547))) (fun k_ hk => (⟨hk, hk.1.1.2.2.1⟩ : _ ∧ k_ ≠ gb537))) (fun k_ hk => (⟨hk, hk.1.1.1.2.2.2⟩ : _ ∧ k_ ≠ gb538))) (fun _ hk => hk.1.1.2) (.slice Ao12 t539.length co12)) (fun _ hk => hk.1.1.2) (.int .i64 t542)) (fun _ hk => hk.1.1.2) (.int .i64 t543)) (fun _ hk => hk.1.1.2) (.int .i64 t544)) (fun _ hk => hk.1.1.2) (.int .i64 t545)) (fun _ hk => hk.1.2) (.slice Ao12 t539.length co12)) (fun _ hk => hk.1.2) (.int .i64 t542)) (fun _ hk => hk.1.2) (.int .i64 t543)) (fun _ hk => hk.1.2) (.int .i64 t544)) (fun _ hk => hk.1.2) (.int .i64 t545)) (fun _ hk => hk.2) (.int .i64 3)) (fun _ hk => hk.2) (.int .i64 0)) (fun _ hk => hk.1.1.1.1.1), by repeat (first | (with_reducible first | exact HB.out | apply pw_below_drewN | refine below_set ?_ GE536.out | refine below_set ?_ GE537.out | refine below_set ?_ GE538.out | refine below_set ?_ GE547.out) | exact HB.out)⟩
 ·replace c3 := Bool.eq_false_iff.mpr c3
  subst c3
  have H1 : ((regimenref13_Count.f k l0_0 a0_1 a0_2 a0_3 a0_4 0 1099511627776).bind fun bt548 => (regimenref14_Read.l0 k bt548.2.2.2.2.2 (([(⟨#[115, 116, 101, 112, 115]⟩ : ByteArray), (⟨#[101, 112, 111, 99, 104, 115]⟩ : ByteArray), (⟨#[37]⟩ : ByteArray)] : List ByteArray)) 0 bt548.1 bt548.2.1 bt548.2.2.1 bt548.2.2.2.1 bt548.2.2.2.2.1)) = some (r1, r2, r3, r4, r5, r6, r7) := by rw [if_neg (show ¬ (false = true) by decide)] at H; exact H
  clear H
  have H := H1
  clear H1
  replace H := Option.bind_eq_some_iff.mp H
  obtain ⟨⟨t548, t551, t552, t553, t554, t555⟩, A200, H⟩ := H
  replace H : (regimenref14_Read.l0 k t555 (([(⟨#[115, 116, 101, 112, 115]⟩ : ByteArray), (⟨#[101, 112, 111, 99, 104, 115]⟩ : ByteArray), (⟨#[37]⟩ : ByteArray)] : List ByteArray)) 0 t548 t551 t552 t553 t554) = some (r1, r2, r3, r4, r5, r6, r7) := H
  have A20 := Aside0.mk A200
  clear A200
  obtain ⟨y556, hy556⟩ : ∃ y_ : List ByteArray, y_ = (([(⟨#[115, 116, 101, 112, 115]⟩ : ByteArray), (⟨#[101, 112, 111, 99, 104, 115]⟩ : ByteArray), (⟨#[37]⟩ : ByteArray)] : List ByteArray)) := ⟨_, rfl⟩
  replace H : (regimenref14_Read.l0 k t555 y556 0 t548 t551 t552 t553 t554) = some (r1, r2, r3, r4, r5, r6, r7) := by first | (rw [hy556]; with_reducible exact H) | (have H2_ := (Option.bind_some _ _).symm.trans H; rw [hy556]; with_reducible exact H2_) | (have H2_ := (Option.bind_some _ _).symm.trans H; with_reducible exact H2_) | with_reducible exact H | (rw [hy556]; exact H) | exact H
  have Ny556 := Aside0.mk hy556
  clear hy556
  have H' := Aside0.mk H
  clear H
  go_enter Try.func35, Try.ntmps35
  go_wp2_with (first | ((with_reducible refine gate_dst (N := 1) rfl ?_); refine box_event ?hg (N := 1) ?hd (cs := #[.slice A0_0 l0_0.length c0_0, .int .i64 a0_1, .int .i64 a0_2, .int .i64 a0_3, .int .i64 a0_4]) (t := 68) ?hr ?_; (case hd => rfl); (case hg => rfl); (case hr => first | (go_simp; done) | (go_simp; rfl)); intro gb536 hg w21 hbox hb; have n0_ := Aside0.mk (Kd.V_below (Kd.V_elderB (by (with_reducible repeat apply Kd.V_drewN); exact HO0_0.out) gb536 (Nat.le_of_eq hg.symm)) hb); have n1_ := Aside0.mk (below_step (by repeat (first | (with_reducible first | exact HB.out | apply pw_below_drewN) | exact HB.out)) hb); have n2_ := Aside0.mk (hbox); have n3_ := Aside0.mk ((by rw [hg]; exact (below_size (by repeat (first | (with_reducible first | exact HB.out | apply pw_below_drewN) | exact HB.out))) : w.heap.size ≤ gb536)); have n4_ := n3_; clear HO0_0 HB; have HO0_0 := n0_; have HB := n1_; have BK536 := n2_; have GW536 := n3_; have GE536 := n4_; clear n0_ n1_ n2_ n3_ n4_; clear hb hbox hg) | ((with_reducible refine gate_dst (N := 2) rfl ?_); refine box_event ?hg (N := 2) ?hd (cs := #[.slice none 0 0, .int .i64 0, .int .i64 0, .int .i64 0, .int .i64 0]) (t := 68) ?hr ?_; (case hd => rfl); (case hg => rfl); (case hr => first | (go_simp; done) | (go_simp; rfl)); intro gb537 hg w22 hbox hb; have n0_ := Aside0.mk (Kd.V_below (Kd.V_elderB (by (with_reducible repeat apply Kd.V_drewN); exact HO0_0.out) gb537 (Nat.le_of_eq hg.symm)) hb); have n1_ := Aside0.mk (blk_below (g := gb536) (by exact BK536.out) hb); have n2_ := Aside0.mk (below_step (by repeat (first | (with_reducible first | exact HB.out | apply pw_below_drewN | refine below_set ?_ GE536.out) | exact HB.out)) hb); have n3_ := Aside0.mk (hbox); have n4_ := Aside0.mk ((by rw [hg]; exact (below_size (by repeat (first | (with_reducible first | exact HB.out | apply pw_below_drewN | refine below_set ?_ GE536.out) | exact HB.out))) : w.heap.size ≤ gb537)); have n5_ := n4_; have n6_ := Aside0.mk ((by rw [hg]; exact Nat.ne_of_lt (blk_lt (g := gb536) (o := .cells #[.slice A0_0 l0_0.length c0_0, .int .i64 a0_1, .int .i64 a0_2, .int .i64 a0_3, .int .i64 a0_4] 68 (0, 0)) (by (with_reducible repeat refine blk_drewN ?_ _); exact BK536.out)) : gb536 ≠ gb537)); have n7_ := Aside0.mk ((by rw [hg]; exact Nat.ne_of_gt (blk_lt (g := gb536) (o := .cells #[.slice A0_0 l0_0.length c0_0, .int .i64 a0_1, .int .i64 a0_2, .int .i64 a0_3, .int .i64 a0_4] 68 (0, 0)) (by (with_reducible repeat refine blk_drewN ?_ _); exact BK536.out)) : gb537 ≠ gb536)); clear HO0_0 BK536 HB; have HO0_0 := n0_; have BK536 := n1_; have HB := n2_; have BK537 := n3_; have GW537 := n4_; have GE537 := n5_; have NB536_537 := n6_; have NB537_536 := n7_; clear n0_ n1_ n2_ n3_ n4_ n5_ n6_ n7_; clear hb hbox hg) | ((with_reducible refine gate_dst (N := 3) rfl ?_); refine box_event ?hg (N := 3) ?hd (cs := #[.int .i64 0, .int .i64 0]) (t := 60) ?hr ?_; (case hd => rfl); (case hg => rfl); (case hr => first | (go_simp; done) | (go_simp; rfl)); intro gb538 hg w23 hbox hb; have n0_ := Aside0.mk (Kd.V_below (Kd.V_elderB (by (with_reducible repeat apply Kd.V_drewN); exact HO0_0.out) gb538 (Nat.le_of_eq hg.symm)) hb); have n1_ := Aside0.mk (blk_below (g := gb536) (by exact BK536.out) hb); have n2_ := Aside0.mk (blk_below (g := gb537) (by exact BK537.out) hb); have n3_ := Aside0.mk (below_step (by repeat (first | (with_reducible first | exact HB.out | apply pw_below_drewN | refine below_set ?_ GE536.out | refine below_set ?_ GE537.out) | exact HB.out)) hb); have n4_ := Aside0.mk (hbox); have n5_ := Aside0.mk ((by rw [hg]; exact (below_size (by repeat (first | (with_reducible first | exact HB.out | apply pw_below_drewN | refine below_set ?_ GE536.out | refine below_set ?_ GE537.out) | exact HB.out))) : w.heap.size ≤ gb538)); have n6_ := n5_; have n7_ := Aside0.mk ((by rw [hg]; exact Nat.ne_of_lt (blk_lt (g := gb536) (o := .cells #[.slice A0_0 l0_0.length c0_0, .int .i64 a0_1, .int .i64 a0_2, .int .i64 a0_3, .int .i64 a0_4] 68 (0, 0)) (by (with_reducible repeat refine blk_drewN ?_ _); exact BK536.out)) : gb536 ≠ gb538)); have n8_ := Aside0.mk ((by rw [hg]; exact Nat.ne_of_gt (blk_lt (g := gb536) (o := .cells #[.slice A0_0 l0_0.length c0_0, .int .i64 a0_1, .int .i64 a0_2, .int .i64 a0_3, .int .i64 a0_4] 68 (0, 0)) (by (with_reducible repeat refine blk_drewN ?_ _); exact BK536.out)) : gb538 ≠ gb536)); have n9_ := Aside0.mk ((by rw [hg]; exact Nat.ne_of_lt (blk_lt (g := gb537) (o := .cells #[.slice none 0 0, .int .i64 0, .int .i64 0, .int .i64 0, .int .i64 0] 68 (0, 0)) (by (with_reducible repeat refine blk_drewN ?_ _); exact BK537.out)) : gb537 ≠ gb538)); have n10_ := Aside0.mk ((by rw [hg]; exact Nat.ne_of_gt (blk_lt (g := gb537) (o := .cells #[.slice none 0 0, .int .i64 0, .int .i64 0, .int .i64 0, .int .i64 0] 68 (0, 0)) (by (with_reducible repeat refine blk_drewN ?_ _); exact BK537.out)) : gb538 ≠ gb537)); clear HO0_0 BK536 BK537 HB; have HO0_0 := n0_; have BK536 := n1_; have BK537 := n2_; have HB := n3_; have BK538 := n4_; have GW538 := n5_; have GE538 := n6_; have NB536_538 := n7_; have NB538_536 := n8_; have NB537_538 := n9_; have NB538_537 := n10_; clear n0_ n1_ n2_ n3_ n4_ n5_ n6_ n7_ n8_ n9_ n10_; clear hb hbox hg; have hnb24 := NB536_537.out; have hnc24 := NB537_536.out; have hnb25 := NB536_538.out; have hnc25 := NB538_536.out; have hcz26_0 : w23.cell? ⟨gb536, 0, none⟩ = some (.slice A0_0 l0_0.length c0_0) := (blk_cell BK536.out 0).trans rfl; have hcz26_1 : w23.cell? ⟨gb536, 1, none⟩ = some (.int .i64 a0_1) := (blk_cell BK536.out 1).trans rfl; have hcz26_2 : w23.cell? ⟨gb536, 2, none⟩ = some (.int .i64 a0_2) := (blk_cell BK536.out 2).trans rfl; have hcz26_3 : w23.cell? ⟨gb536, 3, none⟩ = some (.int .i64 a0_3) := (blk_cell BK536.out 3).trans rfl; have hcz26_4 : w23.cell? ⟨gb536, 4, none⟩ = some (.int .i64 a0_4) := (blk_cell BK536.out 4).trans rfl; have hfz26_0 := blk_frozen BK536.out 0; have hfz26_1 := blk_frozen BK536.out 1; have hfz26_2 := blk_frozen BK536.out 2; have hfz26_3 := blk_frozen BK536.out 3; have hfz26_4 := blk_frozen BK536.out 4) | ((with_reducible refine gate_callee (f := 68) rfl ?_); refine goesL_ (some 14) rfl rfl Try.func68 (by kernel_rfl) rfl #[.agg #[.slice A0_0 l0_0.length c0_0, .int .i64 a0_1, .int .i64 a0_2, .int .i64 a0_3, .int .i64 a0_4], .int .i64 1, .string (⟨#[114, 101, 115, 116]⟩ : ByteArray)] rfl (by (try simp only [List.map_toArray, List.map_cons, List.map_nil]); first | done | rfl | (simp only [List.length_drop, List.length_take]; rfl)) ?_; (with_reducible refine (regimenref13_Take.calls (fun k_ => ((((P0_0_ k_ ∨ w.heap.size ≤ k_) ∧ k_ ≠ gb536) ∧ k_ ≠ gb537) ∧ k_ ≠ gb538)) _ _ l0_0 a0_1 a0_2 a0_3 a0_4 1 (⟨#[114, 101, 115, 116]⟩ : ByteArray) t539 t542 t543 t544 t545 false _ ?side1 A2.out).mono ?_); (case side1 => first | exact HO0_0.out | exact Kd.V_mono HO0_0.out (fun k_ h_ => ⟨⟨h_.1, h_.2.1⟩, h_.2.2⟩)); rintro e w27 ⟨v540, rfl, ho0, hb⟩; refine ⟨_, rfl, ?_⟩; have n0_ := Aside0.mk (Kd.V_below (by (with_reducible repeat apply Kd.V_drewN); exact HO0_0.out) hb); have n1_ := Aside0.mk (Kd.V_lower (Kd.V_mono (ok' := fun k_ => (P0_0_ k_ ∨ w.heap.size ≤ k_) ∧ k_ ≠ gb536 ∧ k_ ≠ gb537 ∧ k_ ≠ gb538) ho0 (fun k_ hk_ => ⟨Or.elim hk_ (fun hs_ => hs_.1.1.1) (fun hn_ => (.inr (Nat.le_trans (below_size (by repeat (first | (with_reducible first | exact HB.out | apply pw_below_drewN | refine below_set ?_ GE536.out | refine below_set ?_ GE537.out | refine below_set ?_ GE538.out) | exact HB.out))) hn_))), Or.elim hk_ (fun hs_ => hs_.1.1.2) (fun hn_ => (Kd.freshB (g := gb536) (o := .cells #[.slice A0_0 l0_0.length c0_0, .int .i64 a0_1, .int .i64 a0_2, .int .i64 a0_3, .int .i64 a0_4] 68 (0, 0)) (by (with_reducible repeat refine blk_drewN ?_ _); exact BK536.out) k_ hn_)), Or.elim hk_ (fun hs_ => hs_.1.2) (fun hn_ => (Kd.freshB (g := gb537) (o := .cells #[.slice none 0 0, .int .i64 0, .int .i64 0, .int .i64 0, .int .i64 0] 68 (0, 0)) (by (with_reducible repeat refine blk_drewN ?_ _); exact BK537.out) k_ hn_)), Or.elim hk_ (fun hs_ => hs_.2) (fun hn_ => (Kd.freshB (g := gb538) (o := .cells #[.int .i64 0, .int .i64 0] 60 (0, 0)) (by (with_reducible repeat refine blk_drewN ?_ _); exact BK538.out) k_ hn_))⟩)) (below_size (by repeat (first | (with_reducible first | exact HB.out | apply pw_below_drewN | refine below_set ?_ GE536.out | refine below_set ?_ GE537.out | refine below_set ?_ GE538.out) | exact HB.out)))); have n2_ := Aside0.mk (blk_below (g := gb536) (by exact BK536.out) hb); have n3_ := Aside0.mk (blk_below (g := gb537) (by exact BK537.out) hb); have n4_ := Aside0.mk (blk_below (g := gb538) (by exact BK538.out) hb); have n5_ := Aside0.mk (below_step (by repeat (first | (with_reducible first | exact HB.out | apply pw_below_drewN | refine below_set ?_ GE536.out | refine below_set ?_ GE537.out | refine below_set ?_ GE538.out) | exact HB.out)) hb); clear HO0_0 BK536 BK537 BK538 HB; have HO0_0 := n0_; have HO541 := n1_; have BK536 := n2_; have BK537 := n3_; have BK538 := n4_; have HB := n5_; clear n0_ n1_ n2_ n3_ n4_ n5_; (try clear hb); (try clear ho0)) | ((with_reducible refine gate_dst (N := 4) rfl ?_); refine box_event ?hg (N := 4) ?hd (cs := #[.slice none 0 0, .int .i64 0, .int .i64 0, .int .i64 0, .int .i64 0]) (t := 68) ?hr ?_; (case hd => rfl); (case hg => rfl); (case hr => first | (go_simp; done) | (go_simp; rfl)); intro gb547 hg w28 hbox hb; have n0_ := Aside0.mk (Kd.V_below (Kd.V_elderB (by (with_reducible repeat apply Kd.V_drewN); exact HO0_0.out) gb547 (Nat.le_of_eq hg.symm)) hb); have n1_ := Aside0.mk (Kd.V_below (Kd.V_elderB (by (with_reducible repeat apply Kd.V_drewN); exact HO541.out) gb547 (Nat.le_of_eq hg.symm)) hb); have n2_ := Aside0.mk (blk_below (g := gb536) (by exact BK536.out) hb); have n3_ := Aside0.mk (blk_below (g := gb537) (by exact BK537.out) hb); have n4_ := Aside0.mk (blk_below (g := gb538) (by exact BK538.out) hb); have n5_ := Aside0.mk (below_step (by repeat (first | (with_reducible first | exact HB.out | apply pw_below_drewN | refine below_set ?_ GE536.out | refine below_set ?_ GE537.out | refine below_set ?_ GE538.out) | exact HB.out)) hb); have n6_ := Aside0.mk (hbox); have n7_ := Aside0.mk ((by rw [hg]; exact (below_size (by repeat (first | (with_reducible first | exact HB.out | apply pw_below_drewN | refine below_set ?_ GE536.out | refine below_set ?_ GE537.out | refine below_set ?_ GE538.out) | exact HB.out))) : w.heap.size ≤ gb547)); have n8_ := n7_; have n9_ := Aside0.mk ((by rw [hg]; exact Nat.ne_of_lt (blk_lt (g := gb536) (o := .cells #[.slice A0_0 l0_0.length c0_0, .int .i64 a0_1, .int .i64 a0_2, .int .i64 a0_3, .int .i64 a0_4] 68 (0, 0)) (by (with_reducible repeat refine blk_drewN ?_ _); exact BK536.out)) : gb536 ≠ gb547)); have n10_ := Aside0.mk ((by rw [hg]; exact Nat.ne_of_gt (blk_lt (g := gb536) (o := .cells #[.slice A0_0 l0_0.length c0_0, .int .i64 a0_1, .int .i64 a0_2, .int .i64 a0_3, .int .i64 a0_4] 68 (0, 0)) (by (with_reducible repeat refine blk_drewN ?_ _); exact BK536.out)) : gb547 ≠ gb536)); have n11_ := Aside0.mk ((by rw [hg]; exact Nat.ne_of_lt (blk_lt (g := gb537) (o := .cells #[.slice none 0 0, .int .i64 0, .int .i64 0, .int .i64 0, .int .i64 0] 68 (0, 0)) (by (with_reducible repeat refine blk_drewN ?_ _); exact BK537.out)) : gb537 ≠ gb547)); have n12_ := Aside0.mk ((by rw [hg]; exact Nat.ne_of_gt (blk_lt (g := gb537) (o := .cells #[.slice none 0 0, .int .i64 0, .int .i64 0, .int .i64 0, .int .i64 0] 68 (0, 0)) (by (with_reducible repeat refine blk_drewN ?_ _); exact BK537.out)) : gb547 ≠ gb537)); have n13_ := Aside0.mk ((by rw [hg]; exact Nat.ne_of_lt (blk_lt (g := gb538) (o := .cells #[.int .i64 0, .int .i64 0] 60 (0, 0)) (by (with_reducible repeat refine blk_drewN ?_ _); exact BK538.out)) : gb538 ≠ gb547)); have n14_ := Aside0.mk ((by rw [hg]; exact Nat.ne_of_gt (blk_lt (g := gb538) (o := .cells #[.int .i64 0, .int .i64 0] 60 (0, 0)) (by (with_reducible repeat refine blk_drewN ?_ _); exact BK538.out)) : gb547 ≠ gb538)); clear HO0_0 HO541 BK536 BK537 BK538 HB; have HO0_0 := n0_; have HO541 := n1_; have BK536 := n2_; have BK537 := n3_; have BK538 := n4_; have HB := n5_; have BK547 := n6_; have GW547 := n7_; have GE547 := n8_; have NB536_547 := n9_; have NB547_536 := n10_; have NB537_547 := n11_; have NB547_537 := n12_; have NB538_547 := n13_; have NB547_538 := n14_; clear n0_ n1_ n2_ n3_ n4_ n5_ n6_ n7_ n8_ n9_ n10_ n11_ n12_ n13_ n14_; clear hb hbox hg; obtain ⟨Ao29, co29, eo29⟩ := Kd.V_slice HO541.out; subst eo29; have hnb30 := NB547_536.out; have hnc30 := NB536_547.out; have hnb31 := NB547_537.out; have hnc31 := NB537_547.out; have hnb32 := NB547_538.out; have hnc32 := NB538_547.out; have hcz33_0 : w28.cell? ⟨gb547, 0, none⟩ = some (.slice none 0 0) := (blk_cell BK547.out 0).trans rfl; have hcz33_1 : w28.cell? ⟨gb547, 1, none⟩ = some (.int .i64 0) := (blk_cell BK547.out 1).trans rfl; have hcz33_2 : w28.cell? ⟨gb547, 2, none⟩ = some (.int .i64 0) := (blk_cell BK547.out 2).trans rfl; have hcz33_3 : w28.cell? ⟨gb547, 3, none⟩ = some (.int .i64 0) := (blk_cell BK547.out 3).trans rfl; have hcz33_4 : w28.cell? ⟨gb547, 4, none⟩ = some (.int .i64 0) := (blk_cell BK547.out 4).trans rfl; have hfz33_0 := blk_frozen BK547.out 0; have hfz33_1 := blk_frozen BK547.out 1; have hfz33_2 := blk_frozen BK547.out 2; have hfz33_3 := blk_frozen BK547.out 3; have hfz33_4 := blk_frozen BK547.out 4) | ((with_reducible refine gate_store (t := 68) (p := 4) rfl ?_); refine store_event (t := 68) (p := 4) (v := ?vo_w34) (w1 := (((((w28.setCell ⟨gb547, 0, none⟩ (.slice Ao29 t539.length co29)).setCell ⟨gb547, 1, none⟩ (.int .i64 t542)).setCell ⟨gb547, 2, none⟩ (.int .i64 t543)).setCell ⟨gb547, 3, none⟩ (.int .i64 t544)).setCell ⟨gb547, 4, none⟩ (.int .i64 t545))) ?hg ?ho ?hn ?hr ?_; (case ho => rfl); (case hg => rfl); (case hn => rfl); (case hr => first | (go_simp; done) | (go_simp; rfl)); intro w34 hw; have n0_ : Aside0 (Kd.V k34 34 w34 w.heap.size (fun k_ => (P0_0_ k_ ∨ w.heap.size ≤ k_) ∧ k_ ≠ gb536 ∧ k_ ≠ gb537 ∧ k_ ≠ gb538 ∧ k_ ≠ gb547) (.slice A0_0 l0_0.length c0_0) l0_0) := ⟨(by rw [hw]; exact (by (with_reducible repeat apply Kd.V_drewN); exact Kd.V_mono (Kd.V_far (p := ⟨gb547, 4, none⟩) (Kd.V_far (p := ⟨gb547, 3, none⟩) (Kd.V_far (p := ⟨gb547, 2, none⟩) (Kd.V_far (p := ⟨gb547, 1, none⟩) (Kd.V_far (p := ⟨gb547, 0, none⟩) (Kd.V_mono HO0_0.out (fun k_ hk => (⟨hk, hk.2⟩ : _ ∧ k_ ≠ gb547))) (fun _ hk => hk.2) (.slice Ao29 t539.length co29)) (fun _ hk => hk.2) (.int .i64 t542)) (fun _ hk => hk.2) (.int .i64 t543)) (fun _ hk => hk.2) (.int .i64 t544)) (fun _ hk => hk.2) (.int .i64 t545)) (fun _ hk => ⟨hk.1.1.1.1.1, ⟨hk.1.1.1.1.2, ⟨hk.1.1.1.2, ⟨hk.1.1.2, hk.1.2⟩⟩⟩⟩)))⟩; have n1_ : Aside0 (Kd.V k34 34 w34 w.heap.size (fun k_ => (P0_0_ k_ ∨ w.heap.size ≤ k_) ∧ k_ ≠ gb536 ∧ k_ ≠ gb537 ∧ k_ ≠ gb538 ∧ k_ ≠ gb547) (.slice Ao29 t539.length co29) t539) := ⟨(by rw [hw]; exact (by (with_reducible repeat apply Kd.V_drewN); exact Kd.V_mono (Kd.V_far (p := ⟨gb547, 4, none⟩) (Kd.V_far (p := ⟨gb547, 3, none⟩) (Kd.V_far (p := ⟨gb547, 2, none⟩) (Kd.V_far (p := ⟨gb547, 1, none⟩) (Kd.V_far (p := ⟨gb547, 0, none⟩) (Kd.V_mono HO541.out (fun k_ hk => (⟨hk, hk.2⟩ : _ ∧ k_ ≠ gb547))) (fun _ hk => hk.2) (.slice Ao29 t539.length co29)) (fun _ hk => hk.2) (.int .i64 t542)) (fun _ hk => hk.2) (.int .i64 t543)) (fun _ hk => hk.2) (.int .i64 t544)) (fun _ hk => hk.2) (.int .i64 t545)) (fun _ hk => ⟨hk.1.1.1, ⟨hk.1.1.2.1, ⟨hk.1.1.2.2.1, ⟨hk.1.1.2.2.2, hk.1.2⟩⟩⟩⟩)))⟩; have n2_ : Aside0 (w34.heap[gb536]? = some (.cells #[.slice A0_0 l0_0.length c0_0, .int .i64 a0_1, .int .i64 a0_2, .int .i64 a0_3, .int .i64 a0_4] 68 (0, 0))) := ⟨(by rw [hw]; exact (by (with_reducible repeat refine blk_drewN ?_ _); refine blk_far ?_ NB536_547.out _; (with_reducible repeat refine blk_drewN ?_ _); refine blk_far ?_ NB536_547.out _; (with_reducible repeat refine blk_drewN ?_ _); refine blk_far ?_ NB536_547.out _; (with_reducible repeat refine blk_drewN ?_ _); refine blk_far ?_ NB536_547.out _; (with_reducible repeat refine blk_drewN ?_ _); refine blk_far ?_ NB536_547.out _; (with_reducible repeat refine blk_drewN ?_ _); exact BK536.out))⟩; have n3_ : Aside0 (w34.heap[gb537]? = some (.cells #[.slice none 0 0, .int .i64 0, .int .i64 0, .int .i64 0, .int .i64 0] 68 (0, 0))) := ⟨(by rw [hw]; exact (by (with_reducible repeat refine blk_drewN ?_ _); refine blk_far ?_ NB537_547.out _; (with_reducible repeat refine blk_drewN ?_ _); refine blk_far ?_ NB537_547.out _; (with_reducible repeat refine blk_drewN ?_ _); refine blk_far ?_ NB537_547.out _; (with_reducible repeat refine blk_drewN ?_ _); refine blk_far ?_ NB537_547.out _; (with_reducible repeat refine blk_drewN ?_ _); refine blk_far ?_ NB537_547.out _; (with_reducible repeat refine blk_drewN ?_ _); exact BK537.out))⟩; have n4_ : Aside0 (w34.heap[gb538]? = some (.cells #[.int .i64 0, .int .i64 0] 60 (0, 0))) := ⟨(by rw [hw]; exact (by (with_reducible repeat refine blk_drewN ?_ _); refine blk_far ?_ NB538_547.out _; (with_reducible repeat refine blk_drewN ?_ _); refine blk_far ?_ NB538_547.out _; (with_reducible repeat refine blk_drewN ?_ _); refine blk_far ?_ NB538_547.out _; (with_reducible repeat refine blk_drewN ?_ _); refine blk_far ?_ NB538_547.out _; (with_reducible repeat refine blk_drewN ?_ _); refine blk_far ?_ NB538_547.out _; (with_reducible repeat refine blk_drewN ?_ _); exact BK538.out))⟩; have n5_ : Aside0 (w34.heap[gb547]? = some (.cells #[.slice Ao29 t539.length co29, .int .i64 t542, .int .i64 t543, .int .i64 t544, .int .i64 t545] 68 (0, 0))) := ⟨(by rw [hw]; exact (by (with_reducible repeat refine blk_drewN ?_ _); refine blk_put (cs := #[.slice Ao29 t539.length co29, .int .i64 t542, .int .i64 t543, .int .i64 t544, .int .i64 0]) ?_ 4 _ rfl; (with_reducible repeat refine blk_drewN ?_ _); refine blk_put (cs := #[.slice Ao29 t539.length co29, .int .i64 t542, .int .i64 t543, .int .i64 0, .int .i64 0]) ?_ 3 _ rfl; (with_reducible repeat refine blk_drewN ?_ _); refine blk_put (cs := #[.slice Ao29 t539.length co29, .int .i64 t542, .int .i64 0, .int .i64 0, .int .i64 0]) ?_ 2 _ rfl; (with_reducible repeat refine blk_drewN ?_ _); refine blk_put (cs := #[.slice Ao29 t539.length co29, .int .i64 0, .int .i64 0, .int .i64 0, .int .i64 0]) ?_ 1 _ rfl; (with_reducible repeat refine blk_drewN ?_ _); refine blk_put (cs := #[.slice none 0 0, .int .i64 0, .int .i64 0, .int .i64 0, .int .i64 0]) ?_ 0 _ rfl; (with_reducible repeat refine blk_drewN ?_ _); exact BK547.out))⟩; have n6_ : Aside0 (Below w.heap.size w w34) := ⟨(by rw [hw]; exact (by repeat (first | (with_reducible first | exact HB.out | apply pw_below_drewN | refine below_set ?_ GE536.out | refine below_set ?_ GE537.out | refine below_set ?_ GE538.out | refine below_set ?_ GE547.out) | exact HB.out)))⟩; clear hw HO0_0 HO541 BK536 BK537 BK538 BK547 HB; have HO0_0 := n0_; have HO541 := n1_; have BK536 := n2_; have BK537 := n3_; have BK538 := n4_; have BK547 := n5_; have HB := n6_; clear n0_ n1_ n2_ n3_ n4_ n5_ n6_; have hcz35_0 : w34.cell? ⟨gb536, 0, none⟩ = some (.slice A0_0 l0_0.length c0_0) := (blk_cell BK536.out 0).trans rfl; have hcz35_1 : w34.cell? ⟨gb536, 1, none⟩ = some (.int .i64 a0_1) := (blk_cell BK536.out 1).trans rfl; have hcz35_2 : w34.cell? ⟨gb536, 2, none⟩ = some (.int .i64 a0_2) := (blk_cell BK536.out 2).trans rfl; have hcz35_3 : w34.cell? ⟨gb536, 3, none⟩ = some (.int .i64 a0_3) := (blk_cell BK536.out 3).trans rfl; have hcz35_4 : w34.cell? ⟨gb536, 4, none⟩ = some (.int .i64 a0_4) := (blk_cell BK536.out 4).trans rfl; have hfz35_0 := blk_frozen BK536.out 0; have hfz35_1 := blk_frozen BK536.out 1; have hfz35_2 := blk_frozen BK536.out 2; have hfz35_3 := blk_frozen BK536.out 3; have hfz35_4 := blk_frozen BK536.out 4) | ((with_reducible refine gate_callee (f := 69) rfl ?_); refine goesL_ (some 22) rfl rfl Try.func69 (by kernel_rfl) rfl #[.agg #[.slice A0_0 l0_0.length c0_0, .int .i64 a0_1, .int .i64 a0_2, .int .i64 a0_3, .int .i64 a0_4], .int .i64 0, .int .i64 1099511627776] rfl (by (try simp only [List.map_toArray, List.map_cons, List.map_nil]); first | done | rfl | (simp only [List.length_drop, List.length_take]; rfl)) ?_; (with_reducible refine (regimenref13_Count.calls k (fun k_ => ((P0_0_ k_ ∨ w.heap.size ≤ k_) ∧ (k_ ≠ gb536 ∧ (k_ ≠ gb537 ∧ (k_ ≠ gb538 ∧ k_ ≠ gb547))))) _ _ l0_0 a0_1 a0_2 a0_3 a0_4 0 1099511627776 t548 t551 t552 t553 t554 t555 _ ?side1 A20.out).mono ?_); (case side1 => first | exact HO0_0.out | exact Kd.V_mono HO0_0.out (fun k_ h_ => ⟨⟨h_.1, h_.2.1⟩, h_.2.2⟩)); rintro e w36 ⟨v549, rfl, ho0, hb⟩; refine ⟨_, rfl, ?_⟩; have n0_ := Aside0.mk (Kd.V_below (by (with_reducible repeat apply Kd.V_drewN); exact HO0_0.out) hb); have n1_ := Aside0.mk (Kd.V_below (by (with_reducible repeat apply Kd.V_drewN); exact HO541.out) hb); have n2_ := Aside0.mk (Kd.V_lower (Kd.V_mono (ok' := fun k_ => (P0_0_ k_ ∨ w.heap.size ≤ k_) ∧ k_ ≠ gb536 ∧ k_ ≠ gb537 ∧ k_ ≠ gb538 ∧ k_ ≠ gb547) ho0 (fun k_ hk_ => ⟨Or.elim hk_ (fun hs_ => hs_.1) (fun hn_ => (.inr (Nat.le_trans (below_size (by repeat (first | (with_reducible first | exact HB.out | apply pw_below_drewN | refine below_set ?_ GE536.out | refine below_set ?_ GE537.out | refine below_set ?_ GE538.out | refine below_set ?_ GE547.out) | exact HB.out))) hn_))), Or.elim hk_ (fun hs_ => hs_.2.1) (fun hn_ => (Kd.freshB (g := gb536) (o := .cells #[.slice A0_0 l0_0.length c0_0, .int .i64 a0_1, .int .i64 a0_2, .int .i64 a0_3, .int .i64 a0_4] 68 (0, 0)) (by (with_reducible repeat refine blk_drewN ?_ _); exact BK536.out) k_ hn_)), Or.elim hk_ (fun hs_ => hs_.2.2.1) (fun hn_ => (Kd.freshB (g := gb537) (o := .cells #[.slice none 0 0, .int .i64 0, .int .i64 0, .int .i64 0, .int .i64 0] 68 (0, 0)) (by (with_reducible repeat refine blk_drewN ?_ _); exact BK537.out) k_ hn_)), Or.elim hk_ (fun hs_ => hs_.2.2.2.1) (fun hn_ => (Kd.freshB (g := gb538) (o := .cells #[.int .i64 0, .int .i64 0] 60 (0, 0)) (by (with_reducible repeat refine blk_drewN ?_ _); exact BK538.out) k_ hn_)), Or.elim hk_ (fun hs_ => hs_.2.2.2.2) (fun hn_ => (Kd.freshB (g := gb547) (o := .cells #[.slice Ao29 t539.length co29, .int .i64 t542, .int .i64 t543, .int .i64 t544, .int .i64 t545] 68 (0, 0)) (by (with_reducible repeat refine blk_drewN ?_ _); exact BK547.out) k_ hn_))⟩)) (below_size (by repeat (first | (with_reducible first | exact HB.out | apply pw_below_drewN | refine below_set ?_ GE536.out | refine below_set ?_ GE537.out | refine below_set ?_ GE538.out | refine below_set ?_ GE547.out) | exact HB.out)))); have n3_ := Aside0.mk (blk_below (g := gb536) (by exact BK536.out) hb); have n4_ := Aside0.mk (blk_below (g := gb537) (by exact BK537.out) hb); have n5_ := Aside0.mk (blk_below (g := gb538) (by exact BK538.out) hb); have n6_ := Aside0.mk (blk_below (g := gb547) (by exact BK547.out) hb); have n7_ := Aside0.mk (below_step (by repeat (first | (with_reducible first | exact HB.out | apply pw_below_drewN | refine below_set ?_ GE536.out | refine below_set ?_ GE537.out | refine below_set ?_ GE538.out | refine below_set ?_ GE547.out) | exact HB.out)) hb); clear HO0_0 HO541 BK536 BK537 BK538 BK547 HB; have HO0_0 := n0_; have HO541 := n1_; have HO550 := n2_; have BK536 := n3_; have BK537 := n4_; have BK538 := n5_; have BK547 := n6_; have HB := n7_; clear n0_ n1_ n2_ n3_ n4_ n5_ n6_ n7_; (try clear hb); (try clear ho0); obtain ⟨Ao37, co37, eo37⟩ := Kd.V_slice HO550.out; subst eo37; have hcz38_0 : w36.cell? ⟨gb547, 0, none⟩ = some (.slice Ao29 t539.length co29) := (blk_cell BK547.out 0).trans rfl; have hcz38_1 : w36.cell? ⟨gb547, 1, none⟩ = some (.int .i64 t542) := (blk_cell BK547.out 1).trans rfl; have hcz38_2 : w36.cell? ⟨gb547, 2, none⟩ = some (.int .i64 t543) := (blk_cell BK547.out 2).trans rfl; have hcz38_3 : w36.cell? ⟨gb547, 3, none⟩ = some (.int .i64 t544) := (blk_cell BK547.out 3).trans rfl; have hcz38_4 : w36.cell? ⟨gb547, 4, none⟩ = some (.int .i64 t545) := (blk_cell BK547.out 4).trans rfl; have hfz38_0 := blk_frozen BK547.out 0; have hfz38_1 := blk_frozen BK547.out 1; have hfz38_2 := blk_frozen BK547.out 2; have hfz38_3 := blk_frozen BK547.out 3; have hfz38_4 := blk_frozen BK547.out 4) | ((with_reducible refine gate_dst (N := 25) rfl ?_); refine Kd.R_lit Kd.string _ 9 ?hg (N := 25) ?hd (xs := ([(⟨#[115, 116, 101, 112, 115]⟩ : ByteArray), (⟨#[101, 112, 111, 99, 104, 115]⟩ : ByteArray), (⟨#[37]⟩ : ByteArray)] : List ByteArray)) (inner := [.string (⟨#[115, 116, 101, 112, 115]⟩ : ByteArray), .string (⟨#[101, 112, 111, 99, 104, 115]⟩ : ByteArray), .string (⟨#[37]⟩ : ByteArray)]) (ok := fun _ => True) (okp := fun _ => True) ?hr ?hp (fun _ hk => hk) trivial (Below.refl _ _) (Nat.le_refl _) (by simp) ?_; (case hd => rfl); (case hg => rfl); (case hr => first | (go_simp; done) | (go_simp; rfl)); (case hp => exact (Reps.one (show Kd.M Kd.string _ _ _ (⟨#[115, 116, 101, 112, 115]⟩ : ByteArray) [.string (⟨#[115, 116, 101, 112, 115]⟩ : ByteArray)] from rfl) (Reps.one (show Kd.M Kd.string _ _ _ (⟨#[101, 112, 111, 99, 104, 115]⟩ : ByteArray) [.string (⟨#[101, 112, 111, 99, 104, 115]⟩ : ByteArray)] from rfl) (Reps.one (show Kd.M Kd.string _ _ _ (⟨#[37]⟩ : ByteArray) [.string (⟨#[37]⟩ : ByteArray)] from rfl) (Reps.none _ _))))); intro v557 w39 ho40 hb hg_ hnew_; clear hg_ hnew_; (first | rw [← Ny556.out] at ho40 | (simp only [Int.reduceToNat] at ho40; rw [← Ny556.out] at ho40)); have n0_ := Aside0.mk (Kd.V_elder' (by (with_reducible repeat apply Kd.V_drewN); exact (Kd.V_mono (Kd.V_far (p := ⟨gb547, 4, none⟩) (Kd.V_far (p := ⟨gb547, 3, none⟩) (Kd.V_far (p := ⟨gb547, 2, none⟩) (Kd.V_far (p := ⟨gb547, 1, none⟩) (Kd.V_far (p := ⟨gb547, 0, none⟩) (Kd.V_mono HO0_0.out (fun k_ hk => (⟨hk, hk.2.2.2.2⟩ : _ ∧ k_ ≠ gb547))) (fun _ hk => hk.2) (.slice Ao37 t548.length co37)) (fun _ hk => hk.2) (.int .i64 t551)) (fun _ hk => hk.2) (.int .i64 t552)) (fun _ hk => hk.2) (.int .i64 t553)) (fun _ hk => hk.2) (.int .i64 t554)) (fun _ h_ => h_.1))) (Kd.R_base ho40) hb); have n1_ := Aside0.mk (Kd.V_elder' (by (with_reducible repeat apply Kd.V_drewN); exact (Kd.V_mono (Kd.V_far (p := ⟨gb547, 4, none⟩) (Kd.V_far (p := ⟨gb547, 3, none⟩) (Kd.V_far (p := ⟨gb547, 2, none⟩) (Kd.V_far (p := ⟨gb547, 1, none⟩) (Kd.V_far (p := ⟨gb547, 0, none⟩) (Kd.V_mono HO541.out (fun k_ hk => (⟨hk, hk.2.2.2.2⟩ : _ ∧ k_ ≠ gb547))) (fun _ hk => hk.2) (.slice Ao37 t548.length co37)) (fun _ hk => hk.2) (.int .i64 t551)) (fun _ hk => hk.2) (.int .i64 t552)) (fun _ hk => hk.2) (.int .i64 t553)) (fun _ hk => hk.2) (.int .i64 t554)) (fun _ h_ => h_.1))) (Kd.R_base ho40) hb); have n2_ := Aside0.mk (Kd.V_elder' (by (with_reducible repeat apply Kd.V_drewN); exact (Kd.V_mono (Kd.V_far (p := ⟨gb547, 4, none⟩) (Kd.V_far (p := ⟨gb547, 3, none⟩) (Kd.V_far (p := ⟨gb547, 2, none⟩) (Kd.V_far (p := ⟨gb547, 1, none⟩) (Kd.V_far (p := ⟨gb547, 0, none⟩) (Kd.V_mono HO550.out (fun k_ hk => (⟨hk, hk.2.2.2.2⟩ : _ ∧ k_ ≠ gb547))) (fun _ hk => hk.2) (.slice Ao37 t548.length co37)) (fun _ hk => hk.2) (.int .i64 t551)) (fun _ hk => hk.2) (.int .i64 t552)) (fun _ hk => hk.2) (.int .i64 t553)) (fun _ hk => hk.2) (.int .i64 t554)) (fun _ h_ => h_.1))) (Kd.R_base ho40) hb); have n3_ := Aside0.mk (Kd.R_lower (Kd.R_newM (M := fun k_ => (w.heap.size ≤ k_)) ho40 (below_size (by repeat (first | (with_reducible first | exact HB.out | apply pw_below_drewN | refine below_set ?_ GE536.out | refine below_set ?_ GE537.out | refine below_set ?_ GE538.out | refine below_set ?_ GE547.out) | exact HB.out))) (fun k_ h_ => h_)) (below_size (by repeat (first | (with_reducible first | exact HB.out | apply pw_below_drewN | refine below_set ?_ GE536.out | refine below_set ?_ GE537.out | refine below_set ?_ GE538.out | refine below_set ?_ GE547.out) | exact HB.out)))); have n4_ := Aside0.mk (blk_below (g := gb536) (o := .cells #[.slice A0_0 l0_0.length c0_0, .int .i64 a0_1, .int .i64 a0_2, .int .i64 a0_3, .int .i64 a0_4] 68 (0, 0)) (by (with_reducible repeat refine blk_drewN ?_ _); refine blk_far ?_ NB536_547.out _; (with_reducible repeat refine blk_drewN ?_ _); refine blk_far ?_ NB536_547.out _; (with_reducible repeat refine blk_drewN ?_ _); refine blk_far ?_ NB536_547.out _; (with_reducible repeat refine blk_drewN ?_ _); refine blk_far ?_ NB536_547.out _; (with_reducible repeat refine blk_drewN ?_ _); refine blk_far ?_ NB536_547.out _; (with_reducible repeat refine blk_drewN ?_ _); exact BK536.out) hb); have n5_ := Aside0.mk (blk_below (g := gb537) (o := .cells #[.slice none 0 0, .int .i64 0, .int .i64 0, .int .i64 0, .int .i64 0] 68 (0, 0)) (by (with_reducible repeat refine blk_drewN ?_ _); refine blk_far ?_ NB537_547.out _; (with_reducible repeat refine blk_drewN ?_ _); refine blk_far ?_ NB537_547.out _; (with_reducible repeat refine blk_drewN ?_ _); refine blk_far ?_ NB537_547.out _; (with_reducible repeat refine blk_drewN ?_ _); refine blk_far ?_ NB537_547.out _; (with_reducible repeat refine blk_drewN ?_ _); refine blk_far ?_ NB537_547.out _; (with_reducible repeat refine blk_drewN ?_ _); exact BK537.out) hb); have n6_ := Aside0.mk (blk_below (g := gb538) (o := .cells #[.int .i64 0, .int .i64 0] 60 (0, 0)) (by (with_reducible repeat refine blk_drewN ?_ _); refine blk_far ?_ NB538_547.out _; (with_reducible repeat refine blk_drewN ?_ _); refine blk_far ?_ NB538_547.out _; (with_reducible repeat refine blk_drewN ?_ _); refine blk_far ?_ NB538_547.out _; (with_reducible repeat refine blk_drewN ?_ _); refine blk_far ?_ NB538_547.out _; (with_reducible repeat refine blk_drewN ?_ _); refine blk_far ?_ NB538_547.out _; (with_reducible repeat refine blk_drewN ?_ _); exact BK538.out) hb); have n7_ := Aside0.mk (blk_below (g := gb547) (o := .cells #[.slice Ao37 t548.length co37, .int .i64 t551, .int .i64 t552, .int .i64 t553, .int .i64 t554] 68 (0, 0)) (by (with_reducible repeat refine blk_drewN ?_ _); refine blk_put (cs := #[.slice Ao37 t548.length co37, .int .i64 t551, .int .i64 t552, .int .i64 t553, .int .i64 t545]) ?_ 4 _ rfl; (with_reducible repeat refine blk_drewN ?_ _); refine blk_put (cs := #[.slice Ao37 t548.length co37, .int .i64 t551, .int .i64 t552, .int .i64 t544, .int .i64 t545]) ?_ 3 _ rfl; (with_reducible repeat refine blk_drewN ?_ _); refine blk_put (cs := #[.slice Ao37 t548.length co37, .int .i64 t551, .int .i64 t543, .int .i64 t544, .int .i64 t545]) ?_ 2 _ rfl; (with_reducible repeat refine blk_drewN ?_ _); refine blk_put (cs := #[.slice Ao37 t548.length co37, .int .i64 t542, .int .i64 t543, .int .i64 t544, .int .i64 t545]) ?_ 1 _ rfl; (with_reducible repeat refine blk_drewN ?_ _); refine blk_put (cs := #[.slice Ao29 t539.length co29, .int .i64 t542, .int .i64 t543, .int .i64 t544, .int .i64 t545]) ?_ 0 _ rfl; (with_reducible repeat refine blk_drewN ?_ _); exact BK547.out) hb); have n8_ := Aside0.mk (below_step (by repeat (first | (with_reducible first | exact HB.out | apply pw_below_drewN | refine below_set ?_ GE536.out | refine below_set ?_ GE537.out | refine below_set ?_ GE538.out | refine below_set ?_ GE547.out) | exact HB.out)) hb); clear HO0_0 HO541 HO550 BK536 BK537 BK538 BK547 HB; have HO0_0 := n0_; have HO541 := n1_; have HO550 := n2_; have HO558 := n3_; have BK536 := n4_; have BK537 := n5_; have BK538 := n6_; have BK547 := n7_; have HB := n8_; clear n0_ n1_ n2_ n3_ n4_ n5_ n6_ n7_ n8_; clear hb ho40))
  (try simp only [Act.put, List.setIfInBounds_toArray, List.set_cons_zero, List.set_cons_succ])
  go_loopg [8] k (fun kq v8 w' => ∃ (x8_1 : Int) (x538001_1 : Int) (x538002_1 : Int) (x538003_1 : Int) (x538004_1 : Int) (x539000_1 : Int) (x539001_1 : Int), v8 = .int .i64 x8_1 ∧ Aside0 (regimenref14_Read.l0 kq t555 y556 x8_1 t548 t551 t552 t553 t554 = some (r1, r2, r3, r4, r5, r6, r7)) ∧ Aside0 (kq ≤ k) ∧ Aside0 (Kd.R Kd.string 9 w' w.heap.size (fun k_ => (w.heap.size ≤ k_)) v557 y556) ∧ Aside0 (Kd.V k34 34 w' w.heap.size (fun k_ => (P0_0_ k_ ∨ w.heap.size ≤ k_) ∧ some k_ ≠ (v557 : Value).ownBlock ∧ k_ ≠ gb536 ∧ k_ ≠ gb537 ∧ k_ ≠ gb538 ∧ k_ ≠ gb547) (.slice A0_0 l0_0.length c0_0) l0_0) ∧ Aside0 (Kd.V k34 34 w' w.heap.size (fun k_ => (P0_0_ k_ ∨ w.heap.size ≤ k_) ∧ some k_ ≠ (v557 : Value).ownBlock ∧ k_ ≠ gb536 ∧ k_ ≠ gb537 ∧ k_ ≠ gb538 ∧ k_ ≠ gb547) (.slice Ao37 t548.length co37) t548) ∧ Aside0 (w'.heap[gb536]? = some (.cells #[(.slice A0_0 l0_0.length c0_0), .int .i64 a0_1, .int .i64 a0_2, .int .i64 a0_3, .int .i64 a0_4] 68 (0, 0))) ∧ Aside0 (w'.heap[gb537]? = some (.cells #[(.slice none 0 0), .int .i64 x538001_1, .int .i64 x538002_1, .int .i64 x538003_1, .int .i64 x538004_1] 68 (0, 0))) ∧ Aside0 (w'.heap[gb538]? = some (.cells #[.int .i64 x539000_1, .int .i64 x539001_1] 60 (0, 0))) ∧ Aside0 (w'.heap[gb547]? = some (.cells #[(.slice Ao37 t548.length co37), .int .i64 t551, .int .i64 t552, .int .i64 t553, .int .i64 t554] 68 (0, 0))) ∧ Aside0 (Below w.heap.size w w'))
  case atStart => exact ⟨(0), (0), (0), (0), (0), (0), (0), (by first | rfl | (simp; done) | (simp [*]; done)), H', ⟨Nat.le_refl _⟩, ⟨by (with_reducible repeat apply Kd.R_drewN); exact Kd.R_mono HO558.out (fun _ hk => hk.1)⟩, ⟨by (with_reducible repeat apply Kd.V_drewN); exact Kd.V_mono HO0_0.out (fun _ hk => ⟨hk.1.1, ⟨hk.2, ⟨hk.1.2.1, ⟨hk.1.2.2.1, ⟨hk.1.2.2.2.1, hk.1.2.2.2.2⟩⟩⟩⟩⟩)⟩, ⟨by (with_reducible repeat apply Kd.V_drewN); exact Kd.V_mono HO550.out (fun _ hk => ⟨hk.1.1, ⟨hk.2, ⟨hk.1.2.1, ⟨hk.1.2.2.1, ⟨hk.1.2.2.2.1, hk.1.2.2.2.2⟩⟩⟩⟩⟩)⟩, ⟨by (with_reducible repeat refine blk_drewN ?_ _); exact BK536.out⟩, ⟨by (with_reducible repeat refine blk_drewN ?_ _); exact BK537.out⟩, ⟨by (with_reducible repeat refine blk_drewN ?_ _); exact BK538.out⟩, ⟨by (with_reducible repeat refine blk_drewN ?_ _); exact BK547.out⟩, ⟨by repeat (first | (with_reducible first | exact HB.out | apply pw_below_drewN | refine below_set ?_ GE536.out | refine below_set ?_ GE537.out | refine below_set ?_ GE538.out | refine below_set ?_ GE547.out) | exact HB.out)⟩⟩
  case round =>
   clear H'
   try clear c1
   try clear c2
   try clear p2
   try clear c3
   try clear c6
   try clear c7
   try clear c8
   try clear c13
   try clear c14
   try clear c15
   try clear c17
   try clear c24
   try clear c25
   try clear c30
   try clear c31
   try clear c32
   try clear c35
   try clear hcz16_0
   try clear hcz16_1
   try clear hcz16_2
   try clear hcz16_3
   try clear hcz16_4
   try clear hcz18_0
   try clear hcz18_1
   try clear hcz18_2
   try clear hcz18_3
   try clear hcz18_4
   try clear hcz19_0
   try clear hcz19_1
   try clear hcz26_0
   try clear hcz26_1
   try clear hcz26_2
   try clear hcz26_3
   try clear hcz26_4
   try clear hcz33_0
   try clear hcz33_1
   try clear hcz33_2
   try clear hcz33_3
   try clear hcz33_4
   try clear hcz35_0
   try clear hcz35_1
   try clear hcz35_2
   try clear hcz35_3
   try clear hcz35_4
   try clear hcz38_0
   try clear hcz38_1
   try clear hcz38_2
   try clear hcz38_3
   try clear hcz38_4
   try clear hcz9_0
   try clear hcz9_1
   try clear hcz9_2
   try clear hcz9_3
   try clear hcz9_4
   try clear hfz16_0
   try clear hfz16_1
   try clear hfz16_2
   try clear hfz16_3
   try clear hfz16_4
   try clear hfz18_0
   try clear hfz18_1
   try clear hfz18_2
   try clear hfz18_3
   try clear hfz18_4
   try clear hfz19_0
   try clear hfz19_1
   try clear hfz26_0
   try clear hfz26_1
   try clear hfz26_2
   try clear hfz26_3
   try clear hfz26_4
   try clear hfz33_0
   try clear hfz33_1
   try clear hfz33_2
   try clear hfz33_3
   try clear hfz33_4
   try clear hfz35_0
   try clear hfz35_1
   try clear hfz35_2
   try clear hfz35_3
   try clear hfz35_4
   try clear hfz38_0
   try clear hfz38_1
   try clear hfz38_2
   try clear hfz38_3
   try clear hfz38_4
   try clear hfz9_0
   try clear hfz9_1
   try clear hfz9_2
   try clear hfz9_3
   try clear hfz9_4
   obtain ⟨x8_1, x538001_1, x538002_1, x538003_1, x538004_1, x539000_1, x539001_1, rfl, HA, HK1, HO_7, HO_537000, HO_548000, BK536, BK537, BK538, BK547, HB⟩ := hrel
   cases gk with
   | zero => exact absurd HA.out (by simp [regimenref14_Read.l0])
   | succ k1 =>
    have H := HA.out
    clear HA
    simp only [regimenref14_Read.l0] at H
    by_cases c41 : x8_1 < 3
    ·rw [if_pos c41] at H
     have c41b0 : decide (x8_1 < 3) = true := decide_eq_true c41
     clear c41
     have HC42 := Aside0.mk H
     clear H
     go_upto_if 31 with (fail)
     go_cut [9] (fun v9 wc => ∃ (kq : Nat) (x9_41 : Int), v9 = .int .i64 x9_41 ∧ Aside0 (regimenref14_Read.j1 kq t555 y556 x8_1 x9_41 t548 t551 t552 t553 t554 = some (r1, r2, r3, r4, r5, r6, r7)) ∧ Aside0 (kq ≤ k1) ∧ Aside0 (Kd.R Kd.string 9 wc w.heap.size (fun k_ => (w.heap.size ≤ k_)) v557 y556) ∧ Aside0 (Kd.V k34 34 wc w.heap.size (fun k_ => (P0_0_ k_ ∨ w.heap.size ≤ k_) ∧ some k_ ≠ (v557 : Value).ownBlock ∧ k_ ≠ gb536 ∧ k_ ≠ gb537 ∧ k_ ≠ gb538 ∧ k_ ≠ gb547) (.slice A0_0 l0_0.length c0_0) l0_0) ∧ Aside0 (Kd.V k34 34 wc w.heap.size (fun k_ => (P0_0_ k_ ∨ w.heap.size ≤ k_) ∧ some k_ ≠ (v557 : Value).ownBlock ∧ k_ ≠ gb536 ∧ k_ ≠ gb537 ∧ k_ ≠ gb538 ∧ k_ ≠ gb547) (.slice Ao37 t548.length co37) t548) ∧ Aside0 (wc.heap[gb536]? = some (.cells #[(.slice A0_0 l0_0.length c0_0), .int .i64 a0_1, .int .i64 a0_2, .int .i64 a0_3, .int .i64 a0_4] 68 (0, 0))) ∧ Aside0 (wc.heap[gb537]? = some (.cells #[(.slice none 0 0), .int .i64 x538001_1, .int .i64 x538002_1, .int .i64 x538003_1, .int .i64 x538004_1] 68 (0, 0))) ∧ Aside0 (wc.heap[gb538]? = some (.cells #[.int .i64 x539000_1, .int .i64 x539001_1] 60 (0, 0))) ∧ Aside0 (wc.heap[gb547]? = some (.cells #[(.slice Ao37 t548.length co37), .int .i64 t551, .int .i64 t552, .int .i64 t553, .int .i64 t554] 68 (0, 0))) ∧ Aside0 (Below w.heap.size w wc))
     case first =>
      have H := HC42.out
      clear HC42
      by_cases c43 : x8_1 = 2
      ·rw [if_pos c43] at H
       have c43b0 : (x8_1 == 2) = true := beq_iff_eq.mpr c43
       have c43b1 : (x8_1 != 2) = false := bne_eq_false_iff_eq.mpr c43
       clear c43
       (first | rw [c43b0] | rw [c43b1] | (simp only [i64_w, i32_w]; rw [c43b0]) | skip)
       have H' := Aside0.mk H
       clear H
       go_wp2
       go_meet
       case rel => exact ⟨_, (4), (by first | rfl | (simp; done) | (simp [*]; done)), H', ⟨by have := HK1.out; first | omega | exact Nat.le_refl _⟩, ⟨by (with_reducible repeat apply Kd.R_drewN); exact HO_7.out⟩, ⟨by (with_reducible repeat apply Kd.V_drewN); exact HO_537000.out⟩, ⟨by (with_reducible repeat apply Kd.V_drewN); exact HO_548000.out⟩, ⟨by (with_reducible repeat refine blk_drewN ?_ _); exact BK536.out⟩, ⟨by (with_reducible repeat refine blk_drewN ?_ _); exact BK537.out⟩, ⟨by (with_reducible repeat refine blk_drewN ?_ _); exact BK538.out⟩, ⟨by (with_reducible repeat refine blk_drewN ?_ _); exact BK547.out⟩, ⟨by repeat (first | (with_reducible first | exact HB.out | apply pw_below_drewN | refine below_set ?_ GE536.out | refine below_set ?_ GE537.out | refine below_set ?_ GE538.out | refine below_set ?_ GE547.out) | exact HB.out)⟩⟩
      ·rw [if_neg c43] at H
       have c43b0 : (x8_1 == 2) = false := beq_eq_false_iff_ne.mpr c43
       have c43b1 : (x8_1 != 2) = true := bne_iff_ne.mpr c43
       (first | rw [c43b0] | rw [c43b1] | (simp only [i64_w, i32_w]; rw [c43b0]) | skip)
       have H' := Aside0.mk H
       clear H
       go_wp2
       go_meet
       case rel => exact ⟨_, (1), (by first | rfl | (simp; done) | (simp [*]; done)), H', ⟨by have := HK1.out; first | omega | exact Nat.le_refl _⟩, ⟨by (with_reducible repeat apply Kd.R_drewN); exact HO_7.out⟩, ⟨by (with_reducible repeat apply Kd.V_drewN); exact HO_537000.out⟩, ⟨by (with_reducible repeat apply Kd.V_drewN); exact HO_548000.out⟩, ⟨by (with_reducible repeat refine blk_drewN ?_ _); exact BK536.out⟩, ⟨by (with_reducible repeat refine blk_drewN ?_ _); exact BK537.out⟩, ⟨by (with_reducible repeat refine blk_drewN ?_ _); exact BK538.out⟩, ⟨by (with_reducible repeat refine blk_drewN ?_ _); exact BK547.out⟩, ⟨by repeat (first | (with_reducible first | exact HB.out | apply pw_below_drewN | refine below_set ?_ GE536.out | refine below_set ?_ GE537.out | refine below_set ?_ GE538.out | refine below_set ?_ GE547.out) | exact HB.out)⟩⟩
     case rest =>
      clear HC42
      try clear c1
      try clear c2
      try clear p2
      try clear c3
      try clear c4
      try clear c6
      try clear c7
      try clear c8
      try clear c13
      try clear c14
      try clear c15
      try clear c17
      try clear c24
      try clear c25
      try clear c30
      try clear c31
      try clear c32
      try clear c35
      try clear c41
      try clear c41b0
      try clear c43
      try clear c43b0
      try clear c43b1
      try clear hcz16_0
      try clear hcz16_1
      try clear hcz16_2
      try clear hcz16_3
      try clear hcz16_4
      try clear hcz18_0
      try clear hcz18_1
      try clear hcz18_2
      try clear hcz18_3
      try clear hcz18_4
      try clear hcz19_0
      try clear hcz19_1
      try clear hcz26_0
      try clear hcz26_1
      try clear hcz26_2
      try clear hcz26_3
      try clear hcz26_4
      try clear hcz33_0
      try clear hcz33_1
      try clear hcz33_2
      try clear hcz33_3
      try clear hcz33_4
      try clear hcz35_0
      try clear hcz35_1
      try clear hcz35_2
      try clear hcz35_3
      try clear hcz35_4
      try clear hcz38_0
      try clear hcz38_1
      try clear hcz38_2
      try clear hcz38_3
      try clear hcz38_4
      try clear hcz9_0
      try clear hcz9_1
      try clear hcz9_2
      try clear hcz9_3
      try clear hcz9_4
      try clear hfz16_0
      try clear hfz16_1
      try clear hfz16_2
      try clear hfz16_3
      try clear hfz16_4
      try clear hfz18_0
      try clear hfz18_1
      try clear hfz18_2
      try clear hfz18_3
      try clear hfz18_4
      try clear hfz19_0
      try clear hfz19_1
      try clear hfz26_0
      try clear hfz26_1
      try clear hfz26_2
      try clear hfz26_3
      try clear hfz26_4
      try clear hfz33_0
      try clear hfz33_1
      try clear hfz33_2
      try clear hfz33_3
      try clear hfz33_4
      try clear hfz35_0
      try clear hfz35_1
      try clear hfz35_2
      try clear hfz35_3
      try clear hfz35_4
      try clear hfz38_0
      try clear hfz38_1
      try clear hfz38_2
      try clear hfz38_3
      try clear hfz38_4
      try clear hfz9_0
      try clear hfz9_1
      try clear hfz9_2
      try clear hfz9_3
      try clear hfz9_4
      try clear p2
      obtain ⟨kq, x9_41, rfl, HA, HJ41, HO_7, HO_537000, HO_548000, BK536, BK537, BK538, BK547, HB⟩ := hcut
      cases kq with
      | zero => exact absurd HA.out (by simp [regimenref14_Read.j1])
      | succ kj41 =>
       have H := HA.out
       clear HA
       simp only [regimenref14_Read.j1] at H
       by_cases c44 : 0 ≤ x8_1
       ·rw [if_pos c44] at H
        have c44b0 : decide (0 ≤ x8_1) = true := decide_eq_true c44
        clear c44
        by_cases c45 : x8_1 < (y556.length : Int)
        ·rw [if_pos c45] at H
         have c45b0 : decide (x8_1 < (y556.length : Int)) = true := decide_eq_true c45
         clear c45
         replace H := Option.bind_eq_some_iff.mp H
         obtain ⟨⟨t567, t570, t571, t572, t573, t574⟩, A460, H⟩ := H
         replace H : (if t574 = true then (if x8_1 = 2 then (regimenref14_Read.j2 kj41 t555 y556 x8_1 t574 (decide (t555 > 100)) t548 t551 t552 t553 t554 t567 t570 t571 t572 t573) else (regimenref14_Read.j2 kj41 t555 y556 x8_1 t574 false t548 t551 t552 t553 t554 t567 t570 t571 t572 t573)) else (regimenref14_Read.j2 kj41 t555 y556 x8_1 t574 false t548 t551 t552 t553 t554 t567 t570 t571 t572 t573)) = some (r1, r2, r3, r4, r5, r6, r7) := H
         have A46 := Aside0.mk A460
         clear A460
         have HC47 := Aside0.mk H
         clear H
         try go_wp2
         have n0_ := Aside0.mk (Kd.R_drew HO_7.out)
         have n1_ := Aside0.mk (Kd.V_drew HO_537000.out)
         have n2_ := Aside0.mk (Kd.V_drew HO_548000.out)
         have n3_ := Aside0.mk (blk_drew BK536.out)
         have n4_ := Aside0.mk (blk_drew BK537.out)
         have n5_ := Aside0.mk (blk_drew BK538.out)
         have n6_ := Aside0.mk (blk_drew BK547.out)
         have n7_ := Aside0.mk (below_drew1 HB.out)
         clear HO_7
         clear HO_537000
         clear HO_548000
         clear BK536
         clear BK537
         clear BK538
         clear BK547
         clear HB
         have HO_7 := n0_
         have HO_537000 := n1_
         have HO_548000 := n2_
         have BK536 := n3_
         have BK537 := n4_
         have BK538 := n5_
         have BK547 := n6_
         have HB := n7_
         clear n0_ n1_ n2_ n3_ n4_ n5_ n6_ n7_
         obtain ⟨Ao49, co49, eo49⟩ := Kd.R_slice HO_7.out
         (first | subst eo49 | (injection eo49 with f1_ f2_ f3_; have f4_ := f1_.symm; have f5_ := f3_.symm; clear f1_ f2_ f3_; subst f4_; subst f5_))
         have p566 : 0 ≤ (x8_1 : Int) := of_decide_eq_true (by first | (with_reducible assumption) | assumption)
         have q566 : x8_1 < (y556.length : Int) := of_decide_eq_true (by first | (with_reducible assumption) | assumption)
         obtain ⟨ad566, e566, hx566_0⟩ := Kd.at_string (Kd.R_reads' HO_7.out).2.2 x8_1 p566 q566
         cases e566
         replace p566 := eq_true p566
         replace q566 := eq_true q566
         refine start_ (n := 13) (S := fun w' => w'.cell? ⟨gb547, 0, none⟩ = some (.slice Ao37 t548.length co37) ∧ w'.cell? ⟨gb547, 1, none⟩ = some (.int .i64 t551) ∧ w'.cell? ⟨gb547, 2, none⟩ = some (.int .i64 t552) ∧ w'.cell? ⟨gb547, 3, none⟩ = some (.int .i64 t553) ∧ w'.cell? ⟨gb547, 4, none⟩ = some (.int .i64 t554) ∧ w'.cell? (ad566.add (x8_1).toNat) = some (.string (rdOf ByteArray.empty y556 x8_1))) (ds := []) #[false, false, false, false, false, false, false, false, false, false, false, false, false] (by kernel_rfl) rfl rfl ⟨(blk_cell BK547.out 0).trans rfl, (blk_cell BK547.out 1).trans rfl, (blk_cell BK547.out 2).trans rfl, (blk_cell BK547.out 3).trans rfl, (blk_cell BK547.out 4).trans rfl, hx566_0⟩ (fun hHeld => ?_); refine with_tabW regimenref14_Read.tab12 regimenref14_Read.bits12 (fun HT_ HW_ => ?_)
         generalize wc.drew = w48 at HO_7 HO_537000 HO_548000 BK536 BK537 BK538 BK547 HB hx566_0 hHeld ⊢
         refine pure_ (i := 1) (N := some 34) (v := ?_) (a' := ?_) #[false, true, false, false, false, false, false, false, false, false, false, false, false] rfl rfl (any_of HT_.out (by kernel_rfl)) (fun _ _ _ h => h) (Or.inl ⟨by rfl, ?_⟩) ?_ ?_
         rotate_left
         ·intro w'
          go_simp
          with_reducible rfl
         rotate_left
         ·simp only [Act.put, List.setIfInBounds_toArray, List.set_cons_zero, List.set_cons_succ, i64_w, i32_w]
          rfl
         refine pure_ (i := 2) (N := some 35) (v := ?_) (a' := ?_) #[false, true, true, false, false, false, false, false, false, false, false, false, false] rfl rfl (any_of HT_.out (by kernel_rfl)) (fun _ _ _ h => h) (Or.inl ⟨by rfl, ?_⟩) ?_ ?_
         rotate_left
         ·intro w'
          go_simp
          with_reducible rfl
         rotate_left
         ·simp only [Act.put, List.setIfInBounds_toArray, List.set_cons_zero, List.set_cons_succ, i64_w, i32_w]
          rfl
         refine pure_ (i := 3) (N := some 36) (v := ?_) (a' := ?_) #[false, true, true, true, false, false, false, false, false, false, false, false, false] rfl rfl (any_of HT_.out (by kernel_rfl)) (fun _ _ _ h => h) (Or.inl ⟨by rfl, ?_⟩) ?_ ?_
         rotate_left
         ·intro w'
          go_simp
          with_reducible rfl
         rotate_left
         ·simp only [Act.put, List.setIfInBounds_toArray, List.set_cons_zero, List.set_cons_succ, i64_w, i32_w]
          rfl
         refine pure_ (i := 4) (N := some 37) (v := ?_) (a' := ?_) #[false, true, true, true, true, false, false, false, false, false, false, false, false] rfl rfl (any_of HT_.out (by kernel_rfl)) (fun _ _ _ h => h) (Or.inl ⟨by rfl, ?_⟩) ?_ ?_
         rotate_left
         ·intro w'
          go_simp
          with_reducible rfl
         rotate_left
         ·simp only [Act.put, List.setIfInBounds_toArray, List.set_cons_zero, List.set_cons_succ, i64_w, i32_w]
          rfl
         refine take_ (i := 0) (N := some 33) (v := ?_) (a' := ?_) #[true, true, true, true, true, false, false, false, false, false, false, false, false] rfl rfl (take_ofW HT_.out HW_.out (by kernel_rfl)) (fun _ _ _ h => h) (Or.inl ⟨by rfl, ?_⟩) hHeld ?_ ?_
         rotate_left
         ·rintro w' ⟨s0, s1, s2, s3, s4, s5⟩
          go_simp
          with_reducible rfl
         rotate_left
         ·simp only [Act.put, List.setIfInBounds_toArray, List.set_cons_zero, List.set_cons_succ, i64_w, i32_w]
          rfl
         refine take_ (i := 5) (N := some 38) (v := ?_) (a' := ?_) #[true, true, true, true, true, true, false, false, false, false, false, false, false] rfl rfl (take_ofW HT_.out HW_.out (by kernel_rfl)) (fun _ _ _ h => h) (Or.inl ⟨by rfl, ?_⟩) hHeld ?_ ?_
         rotate_left
         ·rintro w' ⟨s0, s1, s2, s3, s4, s5⟩
          go_simp
          with_reducible rfl
         rotate_left
         ·simp only [Act.put, List.setIfInBounds_toArray, List.set_cons_zero, List.set_cons_succ, i64_w, i32_w]
          rfl
         refine join_ (σ := Value × Nat) 2 #[true, true, true, true, true, true, true, true, true, true, true, false, false] (fun s_ => [(39, .tuple #[.agg #[s_.1, .int .i64 t570, .int .i64 t571, .int .i64 t572, .int .i64 t573], .bool t574]), (10, .pointer (some ⟨s_.2, 0, none⟩)), (32, .tuple #[.agg #[s_.1, .int .i64 t570, .int .i64 t571, .int .i64 t572, .int .i64 t573], .bool t574]), (40, .agg #[s_.1, .int .i64 t570, .int .i64 t571, .int .i64 t572, .int .i64 t573]), (41, .bool t574)]) (fun s_ w' => (w'.cell? ⟨gb547, 0, none⟩ = some (.slice Ao37 t548.length co37) ∧ w'.cell? ⟨gb547, 1, none⟩ = some (.int .i64 t551) ∧ w'.cell? ⟨gb547, 2, none⟩ = some (.int .i64 t552) ∧ w'.cell? ⟨gb547, 3, none⟩ = some (.int .i64 t553) ∧ w'.cell? ⟨gb547, 4, none⟩ = some (.int .i64 t554) ∧ w'.cell? (ad566.add (x8_1).toNat) = some (.string (rdOf ByteArray.empty y556 x8_1))) ∧ (Kd.V k34 34 w' w.heap.size (fun k_ => (P0_0_ k_ ∨ w.heap.size ≤ k_) ∧ some k_ ≠ (.slice (some ad566) y556.length co49 : Value).ownBlock ∧ k_ ≠ gb536 ∧ k_ ≠ gb537 ∧ k_ ≠ gb538 ∧ k_ ≠ gb547 ∧ k_ ≠ s_.2) s_.1 t567) ∧ (Kd.V k34 34 w' w.heap.size (fun k_ => (P0_0_ k_ ∨ w.heap.size ≤ k_) ∧ some k_ ≠ (.slice (some ad566) y556.length co49 : Value).ownBlock ∧ k_ ≠ gb536 ∧ k_ ≠ gb537 ∧ k_ ≠ gb538 ∧ k_ ≠ gb547 ∧ k_ ≠ s_.2) (.slice A0_0 l0_0.length c0_0) l0_0) ∧ (Kd.V k34 34 w' w.heap.size (fun k_ => (P0_0_ k_ ∨ w.heap.size ≤ k_) ∧ some k_ ≠ (.slice (some ad566) y556.length co49 : Value).ownBlock ∧ k_ ≠ gb536 ∧ k_ ≠ gb537 ∧ k_ ≠ gb538 ∧ k_ ≠ gb547 ∧ k_ ≠ s_.2) (.slice Ao37 t548.length co37) t548) ∧ (Kd.R Kd.string 9 w' w.heap.size (fun k_ => (w.heap.size ≤ k_)) (.slice (some ad566) y556.length co49) y556) ∧ (w'.heap[gb536]? = some (.cells #[.slice A0_0 l0_0.length c0_0, .int .i64 a0_1, .int .i64 a0_2, .int .i64 a0_3, .int .i64 a0_4] 68 (0, 0))) ∧ (w'.heap[gb537]? = some (.cells #[.slice none 0 0, .int .i64 x538001_1, .int .i64 x538002_1, .int .i64 x538003_1, .int .i64 x538004_1] 68 (0, 0))) ∧ (w'.heap[gb538]? = some (.cells #[.int .i64 x539000_1, .int .i64 x539001_1] 60 (0, 0))) ∧ (w'.heap[gb547]? = some (.cells #[.slice Ao37 t548.length co37, .int .i64 t551, .int .i64 t552, .int .i64 t553, .int .i64 t554] 68 (0, 0))) ∧ (w'.heap[s_.2]? = some (.cells #[.slice none 0 0, .int .i64 0, .int .i64 0, .int .i64 0, .int .i64 0] 68 (0, 0))) ∧ (w.heap.size ≤ s_.2) ∧ (w.heap.size ≤ s_.2) ∧ (gb536 ≠ s_.2) ∧ (s_.2 ≠ gb536) ∧ (gb537 ≠ s_.2) ∧ (s_.2 ≠ gb537) ∧ (gb538 ≠ s_.2) ∧ (s_.2 ≠ gb538) ∧ (gb547 ≠ s_.2) ∧ (s_.2 ≠ gb547) ∧ (Below w.heap.size w w')) ?_ ?_
         rotate_left
         ·intro hCont
          refine two_ (i := 6) (j := 10) (Ni := some 39) (Nj := some 10) #[true, true, true, true, true, true, true, false, false, false, false, false, false] #[true, true, true, true, true, true, false, false, false, false, true, false, false] rfl rfl rfl rfl (two_of HT_.out (by kernel_rfl)) (by decide) (by decide) (fun K hK => ?_) (fun K hK => ?_)
          ·skip
           refine goes_ Try.func68 (by kernel_rfl) rfl #[.agg #[.slice Ao37 t548.length co37, .int .i64 t551, .int .i64 t552, .int .i64 t553, .int .i64 t554], .int .i64 x9_41, .string (rdOf ByteArray.empty y556 x8_1)] (by rfl) rfl rfl (by (try simp only [List.map_toArray, List.map_cons, List.map_nil]); first | done | rfl | (simp only [List.length_drop, List.length_take]; rfl)) ?_
           with_reducible refine (regimenref13_Take.calls (fun k_ => ((P0_0_ k_ ∨ w.heap.size ≤ k_) ∧ (some k_ ≠ (.slice (some ad566) y556.length co49 : Value).ownBlock ∧ (k_ ≠ gb536 ∧ (k_ ≠ gb537 ∧ (k_ ≠ gb538 ∧ k_ ≠ gb547)))))) _ _ t548 t551 t552 t553 t554 x9_41 (rdOf ByteArray.empty y556 x8_1) t567 t570 t571 t572 t573 t574 _ ?side1 A46.out).mono ?_
           (case side1 => exact HO_548000.out)
           rintro e w50 ⟨v568, rfl, ho0, hb⟩
           have HS5_ := (hb.cell (World.block_lt_of_cell? _ _ (hHeld.2.2.2.2.2))).trans (hHeld.2.2.2.2.2)
           refine ⟨_, rfl, ?_⟩
           have n0_ := Aside0.mk (Kd.R_below (by (with_reducible repeat apply Kd.R_drewN); exact HO_7.out) hb)
           have n1_ := Aside0.mk (Kd.V_below (by (with_reducible repeat apply Kd.V_drewN); exact HO_537000.out) hb)
           have n2_ := Aside0.mk (Kd.V_below (by (with_reducible repeat apply Kd.V_drewN); exact HO_548000.out) hb)
           have n3_ := Aside0.mk (Kd.V_lower (Kd.V_mono (ok' := fun k_ => (P0_0_ k_ ∨ w.heap.size ≤ k_) ∧ some k_ ≠ (.slice (some ad566) y556.length co49 : Value).ownBlock ∧ k_ ≠ gb536 ∧ k_ ≠ gb537 ∧ k_ ≠ gb538 ∧ k_ ≠ gb547) ho0 (fun k_ hk_ => ⟨Or.elim hk_ (fun hs_ => hs_.1) (fun hn_ => (.inr (Nat.le_trans (below_size (by repeat (first | (with_reducible first | exact HB.out | apply pw_below_drewN | refine below_set ?_ GE536.out | refine below_set ?_ GE537.out | refine below_set ?_ GE538.out | refine below_set ?_ GE547.out) | exact HB.out))) hn_))), Or.elim hk_ (fun hs_ => hs_.2.1) (fun hn_ => (Kd.fresh' (Kd.R_lt (by (with_reducible repeat apply Kd.R_drewN); exact HO_7.out)) k_ hn_)), Or.elim hk_ (fun hs_ => hs_.2.2.1) (fun hn_ => (Kd.freshB (g := gb536) (o := .cells #[.slice A0_0 l0_0.length c0_0, .int .i64 a0_1, .int .i64 a0_2, .int .i64 a0_3, .int .i64 a0_4] 68 (0, 0)) (by (with_reducible repeat refine blk_drewN ?_ _); exact BK536.out) k_ hn_)), Or.elim hk_ (fun hs_ => hs_.2.2.2.1) (fun hn_ => (Kd.freshB (g := gb537) (o := .cells #[.slice none 0 0, .int .i64 x538001_1, .int .i64 x538002_1, .int .i64 x538003_1, .int .i64 x538004_1] 68 (0, 0)) (by (with_reducible repeat refine blk_drewN ?_ _); exact BK537.out) k_ hn_)), Or.elim hk_ (fun hs_ => hs_.2.2.2.2.1) (fun hn_ => (Kd.freshB (g := gb538) (o := .cells #[.int .i64 x539000_1, .int .i64 x539001_1] 60 (0, 0)) (by (with_reducible repeat refine blk_drewN ?_ _); exact BK538.out) k_ hn_)), Or.elim hk_ (fun hs_ => hs_.2.2.2.2.2) (fun hn_ => (Kd.freshB (g := gb547) (o := .cells #[.slice Ao37 t548.length co37, .int .i64 t551, .int .i64 t552, .int .i64 t553, .int .i64 t554] 68 (0, 0)) (by (with_reducible repeat refine blk_drewN ?_ _); exact BK547.out) k_ hn_))⟩)) (below_size (by repeat (first | (with_reducible first | exact HB.out | apply pw_below_drewN | refine below_set ?_ GE536.out | refine below_set ?_ GE537.out | refine below_set ?_ GE538.out | refine below_set ?_ GE547.out) | exact HB.out))))
           have n4_ := Aside0.mk (blk_below (g := gb536) (by exact BK536.out) hb)
           have n5_ := Aside0.mk (blk_below (g := gb537) (by exact BK537.out) hb)
           have n6_ := Aside0.mk (blk_below (g := gb538) (by exact BK538.out) hb)
           have n7_ := Aside0.mk (blk_below (g := gb547) (by exact BK547.out) hb)
           have n8_ := Aside0.mk (below_step (by repeat (first | (with_reducible first | exact HB.out | apply pw_below_drewN | refine below_set ?_ GE536.out | refine below_set ?_ GE537.out | refine below_set ?_ GE538.out | refine below_set ?_ GE547.out) | exact HB.out)) hb)
           clear HO_7
           clear HO_537000
           clear HO_548000
           clear BK536
           clear BK537
           clear BK538
           clear BK547
           clear HB
           have HO_7 := n0_
           have HO_537000 := n1_
           have HO_548000 := n2_
           have HO569 := n3_
           have BK536 := n4_
           have BK537 := n5_
           have BK538 := n6_
           have BK547 := n7_
           have HB := n8_
           clear n0_ n1_ n2_ n3_ n4_ n5_ n6_ n7_ n8_
           (try clear hb)
           (try clear hb2)
           (try clear hk)
           (try clear hi)
           (try clear ho0)
           refine hK.out _ _ ⟨(blk_cell BK547.out 0).trans rfl, (blk_cell BK547.out 1).trans rfl, (blk_cell BK547.out 2).trans rfl, (blk_cell BK547.out 3).trans rfl, (blk_cell BK547.out 4).trans rfl, HS5_⟩ (fun hHeld => ?_)
           clear hK K
           refine norm_ (a' := ?_) ?_ ?_
           rotate_left
           ·show Act.put _ (some 39) _ = _
            simp only [Act.put, List.setIfInBounds_toArray, List.set_cons_zero, List.set_cons_succ, i64_w, i32_w]
            rfl
           refine pure_ (i := 7) (N := some 32) (v := ?_) (a' := ?_) #[true, true, true, true, true, true, true, true, false, false, false, false, false] rfl rfl (any_of HT_.out (by kernel_rfl)) (fun _ _ _ h => h) (Or.inl ⟨by rfl, ?_⟩) ?_ ?_
           rotate_left
           ·intro w'
            go_simp
            with_reducible rfl
           rotate_left
           ·simp only [Act.put, List.setIfInBounds_toArray, List.set_cons_zero, List.set_cons_succ, i64_w, i32_w]
            rfl
           refine pure_ (i := 8) (N := some 40) (v := ?_) (a' := ?_) #[true, true, true, true, true, true, true, true, true, false, false, false, false] rfl rfl (any_of HT_.out (by kernel_rfl)) (fun _ _ _ h => h) (Or.inl ⟨by rfl, ?_⟩) ?_ ?_
           rotate_left
           ·intro w'
            go_simp
            with_reducible rfl
           rotate_left
           ·simp only [Act.put, List.setIfInBounds_toArray, List.set_cons_zero, List.set_cons_succ, i64_w, i32_w]
            rfl
           refine pure_ (i := 9) (N := some 41) (v := ?_) (a' := ?_) #[true, true, true, true, true, true, true, true, true, true, false, false, false] rfl rfl (any_of HT_.out (by kernel_rfl)) (fun _ _ _ h => h) (Or.inl ⟨by rfl, ?_⟩) ?_ ?_
           rotate_left
           ·intro w'
            go_simp
            with_reducible rfl
           rotate_left
           ·simp only [Act.put, List.setIfInBounds_toArray, List.set_cons_zero, List.set_cons_succ, i64_w, i32_w]
            rfl
           refine one_ (i := 10) (N := some 10) #[true, true, true, true, true, true, true, true, true, true, true, false, false] rfl rfl (one_of HT_.out (by kernel_rfl)) (by decide) (fun K hK => ?_)
           refine box_step ?hg (N := 10) ?hd (cs := #[.slice none 0 0, .int .i64 0, .int .i64 0, .int .i64 0, .int .i64 0]) (t := 68) ?hr ?_; (case hd => rfl); (case hg => rfl); (case hr => first | (go_simp; done) | (go_simp; rfl))
           intro gb575 hg w51 hbox hb
           have HS5_ := (hb.cell (World.block_lt_of_cell? _ _ (hHeld.2.2.2.2.2))).trans (hHeld.2.2.2.2.2)
           have n0_ := Aside0.mk (Kd.R_below (by (with_reducible repeat apply Kd.R_drewN); exact HO_7.out) hb)
           have n1_ := Aside0.mk (Kd.V_below (Kd.V_elderB (by (with_reducible repeat apply Kd.V_drewN); exact HO_537000.out) gb575 (Nat.le_of_eq hg.symm)) hb)
           have n2_ := Aside0.mk (Kd.V_below (Kd.V_elderB (by (with_reducible repeat apply Kd.V_drewN); exact HO_548000.out) gb575 (Nat.le_of_eq hg.symm)) hb)
           have n3_ := Aside0.mk (Kd.V_below (Kd.V_elderB (by (with_reducible repeat apply Kd.V_drewN); exact HO569.out) gb575 (Nat.le_of_eq hg.symm)) hb)
           have n4_ := Aside0.mk (blk_below (g := gb536) (by exact BK536.out) hb)
           have n5_ := Aside0.mk (blk_below (g := gb537) (by exact BK537.out) hb)
           have n6_ := Aside0.mk (blk_below (g := gb538) (by exact BK538.out) hb)
           have n7_ := Aside0.mk (blk_below (g := gb547) (by exact BK547.out) hb)
           have n8_ := Aside0.mk (below_step (by repeat (first | (with_reducible first | exact HB.out | apply pw_below_drewN | refine below_set ?_ GE536.out | refine below_set ?_ GE537.out | refine below_set ?_ GE538.out | refine below_set ?_ GE547.out) | exact HB.out)) hb)
           have n9_ := Aside0.mk (hbox)
           have n10_ := Aside0.mk ((by rw [hg]; exact (below_size (by repeat (first | (with_reducible first | exact HB.out | apply pw_below_drewN | refine below_set ?_ GE536.out | refine below_set ?_ GE537.out | refine below_set ?_ GE538.out | refine below_set ?_ GE547.out) | exact HB.out))) : w.heap.size ≤ gb575))
           have n11_ := Aside0.mk ((by rw [hg]; exact (below_size (by repeat (first | (with_reducible first | exact HB.out | apply pw_below_drewN | refine below_set ?_ GE536.out | refine below_set ?_ GE537.out | refine below_set ?_ GE538.out | refine below_set ?_ GE547.out) | exact HB.out))) : w.heap.size ≤ gb575))
           have n12_ := Aside0.mk ((by rw [hg]; exact Nat.ne_of_lt (blk_lt (g := gb536) (o := .cells #[.slice A0_0 l0_0.length c0_0, .int .i64 a0_1, .int .i64 a0_2, .int .i64 a0_3, .int .i64 a0_4] 68 (0, 0)) (by (with_reducible repeat refine blk_drewN ?_ _); exact BK536.out)) : gb536 ≠ gb575))
           have n13_ := Aside0.mk ((by rw [hg]; exact Nat.ne_of_gt (blk_lt (g := gb536) (o := .cells #[.slice A0_0 l0_0.length c0_0, .int .i64 a0_1, .int .i64 a0_2, .int .i64 a0_3, .int .i64 a0_4] 68 (0, 0)) (by (with_reducible repeat refine blk_drewN ?_ _); exact BK536.out)) : gb575 ≠ gb536))
           have n14_ := Aside0.mk ((by rw [hg]; exact Nat.ne_of_lt (blk_lt (g := gb537) (o := .cells #[.slice none 0 0, .int .i64 x538001_1, .int .i64 x538002_1, .int .i64 x538003_1, .int .i64 x538004_1] 68 (0, 0)) (by (with_reducible repeat refine blk_drewN ?_ _); exact BK537.out)) : gb537 ≠ gb575))
           have n15_ := Aside0.mk ((by rw [hg]; exact Nat.ne_of_gt (blk_lt (g := gb537) (o := .cells #[.slice none 0 0, .int .i64 x538001_1, .int .i64 x538002_1, .int .i64 x538003_1, .int .i64 x538004_1] 68 (0, 0)) (by (with_reducible repeat refine blk_drewN ?_ _); exact BK537.out)) : gb575 ≠ gb537))
           have n16_ := Aside0.mk ((by rw [hg]; exact Nat.ne_of_lt (blk_lt (g := gb538) (o := .cells #[.int .i64 x539000_1, .int .i64 x539001_1] 60 (0, 0)) (by (with_reducible repeat refine blk_drewN ?_ _); exact BK538.out)) : gb538 ≠ gb575))
           have n17_ := Aside0.mk ((by rw [hg]; exact Nat.ne_of_gt (blk_lt (g := gb538) (o := .cells #[.int .i64 x539000_1, .int .i64 x539001_1] 60 (0, 0)) (by (with_reducible repeat refine blk_drewN ?_ _); exact BK538.out)) : gb575 ≠ gb538))
           have n18_ := Aside0.mk ((by rw [hg]; exact Nat.ne_of_lt (blk_lt (g := gb547) (o := .cells #[.slice Ao37 t548.length co37, .int .i64 t551, .int .i64 t552, .int .i64 t553, .int .i64 t554] 68 (0, 0)) (by (with_reducible repeat refine blk_drewN ?_ _); exact BK547.out)) : gb547 ≠ gb575))
           have n19_ := Aside0.mk ((by rw [hg]; exact Nat.ne_of_gt (blk_lt (g := gb547) (o := .cells #[.slice Ao37 t548.length co37, .int .i64 t551, .int .i64 t552, .int .i64 t553, .int .i64 t554] 68 (0, 0)) (by (with_reducible repeat refine blk_drewN ?_ _); exact BK547.out)) : gb575 ≠ gb547))
           clear HO_7
           clear HO_537000
           clear HO_548000
           clear HO569
           clear BK536
           clear BK537
           clear BK538
           clear BK547
           clear HB
           have HO_7 := n0_
           have HO_537000 := n1_
           have HO_548000 := n2_
           have HO569 := n3_
           have BK536 := n4_
           have BK537 := n5_
           have BK538 := n6_
           have BK547 := n7_
           have HB := n8_
           have BK575 := n9_
           have GW575 := n10_
           have GE575 := n11_
           have NB536_575 := n12_
           have NB575_536 := n13_
           have NB537_575 := n14_
           have NB575_537 := n15_
           have NB538_575 := n16_
           have NB575_538 := n17_
           have NB547_575 := n18_
           have NB575_547 := n19_
           clear n0_ n1_ n2_ n3_ n4_ n5_ n6_ n7_ n8_ n9_ n10_ n11_ n12_ n13_ n14_ n15_ n16_ n17_ n18_ n19_
           clear hb hbox hg
           refine hK.out _ _ ⟨(blk_cell BK547.out 0).trans rfl, (blk_cell BK547.out 1).trans rfl, (blk_cell BK547.out 2).trans rfl, (blk_cell BK547.out 3).trans rfl, (blk_cell BK547.out 4).trans rfl, HS5_⟩ (fun hHeld => ?_)
           clear hK K
           refine norm_ (a' := ?_) ?_ ?_
           rotate_left
           ·show Act.put _ (some 10) _ = _
            simp only [Act.put, List.setIfInBounds_toArray, List.set_cons_zero, List.set_cons_succ, i64_w, i32_w]
            rfl
           exact norm_ (by simp only [putAll, Act.put, List.setIfInBounds_toArray, List.set_cons_zero, List.set_cons_succ]) (hCont (v568, gb575) _ ⟨hHeld, (by (with_reducible repeat apply Kd.V_drewN); exact Kd.V_mono HO569.out (fun _ hk => ⟨hk.1.1, ⟨hk.1.2.1, ⟨hk.1.2.2.1, ⟨hk.1.2.2.2.1, ⟨hk.1.2.2.2.2.1, ⟨hk.1.2.2.2.2.2, hk.2⟩⟩⟩⟩⟩⟩)), (by (with_reducible repeat apply Kd.V_drewN); exact Kd.V_mono HO_537000.out (fun _ hk => ⟨hk.1.1, ⟨hk.1.2.1, ⟨hk.1.2.2.1, ⟨hk.1.2.2.2.1, ⟨hk.1.2.2.2.2.1, ⟨hk.1.2.2.2.2.2, hk.2⟩⟩⟩⟩⟩⟩)), (by (with_reducible repeat apply Kd.V_drewN); exact Kd.V_mono HO_548000.out (fun _ hk => ⟨hk.1.1, ⟨hk.1.2.1, ⟨hk.1.2.2.1, ⟨hk.1.2.2.2.1, ⟨hk.1.2.2.2.2.1, ⟨hk.1.2.2.2.2.2, hk.2⟩⟩⟩⟩⟩⟩)), (by (with_reducible repeat apply Kd.R_drewN); exact HO_7.out), (by (with_reducible repeat refine blk_drewN ?_ _); exact BK536.out), (by (with_reducible repeat refine blk_drewN ?_ _); exact BK537.out), (by (with_reducible repeat refine blk_drewN ?_ _); exact BK538.out), (by (with_reducible repeat refine blk_drewN ?_ _); exact BK547.out), (by (with_reducible repeat refine blk_drewN ?_ _); exact BK575.out), GW575.out, GE575.out, NB536_575.out, NB575_536.out, NB537_575.out, NB575_537.out, NB538_575.out, NB575_538.out, NB547_575.out, NB575_547.out, (by repeat (first | (with_reducible first | exact HB.out | apply pw_below_drewN | refine below_set ?_ GE536.out | refine below_set ?_ GE537.out | refine below_set ?_ GE538.out | refine below_set ?_ GE547.out | refine below_set ?_ GE575.out) | exact HB.out))⟩)
          ·skip
           refine box_step ?hg (N := 10) ?hd (cs := #[.slice none 0 0, .int .i64 0, .int .i64 0, .int .i64 0, .int .i64 0]) (t := 68) ?hr ?_; (case hd => rfl); (case hg => rfl); (case hr => first | (go_simp; done) | (go_simp; rfl))
           intro gb575 hg w50 hbox hb
           have HS5_ := (hb.cell (World.block_lt_of_cell? _ _ (hHeld.2.2.2.2.2))).trans (hHeld.2.2.2.2.2)
           have n0_ := Aside0.mk (Kd.R_below (by (with_reducible repeat apply Kd.R_drewN); exact HO_7.out) hb)
           have n1_ := Aside0.mk (Kd.V_below (Kd.V_elderB (by (with_reducible repeat apply Kd.V_drewN); exact HO_537000.out) gb575 (Nat.le_of_eq hg.symm)) hb)
           have n2_ := Aside0.mk (Kd.V_below (Kd.V_elderB (by (with_reducible repeat apply Kd.V_drewN); exact HO_548000.out) gb575 (Nat.le_of_eq hg.symm)) hb)
           have n3_ := Aside0.mk (blk_below (g := gb536) (by exact BK536.out) hb)
           have n4_ := Aside0.mk (blk_below (g := gb537) (by exact BK537.out) hb)
           have n5_ := Aside0.mk (blk_below (g := gb538) (by exact BK538.out) hb)
           have n6_ := Aside0.mk (blk_below (g := gb547) (by exact BK547.out) hb)
           have n7_ := Aside0.mk (below_step (by repeat (first | (with_reducible first | exact HB.out | apply pw_below_drewN | refine below_set ?_ GE536.out | refine below_set ?_ GE537.out | refine below_set ?_ GE538.out | refine below_set ?_ GE547.out) | exact HB.out)) hb)
           have n8_ := Aside0.mk (hbox)
           have n9_ := Aside0.mk ((by rw [hg]; exact (below_size (by repeat (first | (with_reducible first | exact HB.out | apply pw_below_drewN | refine below_set ?_ GE536.out | refine below_set ?_ GE537.out | refine below_set ?_ GE538.out | refine below_set ?_ GE547.out) | exact HB.out))) : w.heap.size ≤ gb575))
           have n10_ := Aside0.mk ((by rw [hg]; exact (below_size (by repeat (first | (with_reducible first | exact HB.out | apply pw_below_drewN | refine below_set ?_ GE536.out | refine below_set ?_ GE537.out | refine below_set ?_ GE538.out | refine below_set ?_ GE547.out) | exact HB.out))) : w.heap.size ≤ gb575))
           have n11_ := Aside0.mk ((by rw [hg]; exact Nat.ne_of_lt (blk_lt (g := gb536) (o := .cells #[.slice A0_0 l0_0.length c0_0, .int .i64 a0_1, .int .i64 a0_2, .int .i64 a0_3, .int .i64 a0_4] 68 (0, 0)) (by (with_reducible repeat refine blk_drewN ?_ _); exact BK536.out)) : gb536 ≠ gb575))
           have n12_ := Aside0.mk ((by rw [hg]; exact Nat.ne_of_gt (blk_lt (g := gb536) (o := .cells #[.slice A0_0 l0_0.length c0_0, .int .i64 a0_1, .int .i64 a0_2, .int .i64 a0_3, .int .i64 a0_4] 68 (0, 0)) (by (with_reducible repeat refine blk_drewN ?_ _); exact BK536.out)) : gb575 ≠ gb536))
           have n13_ := Aside0.mk ((by rw [hg]; exact Nat.ne_of_lt (blk_lt (g := gb537) (o := .cells #[.slice none 0 0, .int .i64 x538001_1, .int .i64 x538002_1, .int .i64 x538003_1, .int .i64 x538004_1] 68 (0, 0)) (by (with_reducible repeat refine blk_drewN ?_ _); exact BK537.out)) : gb537 ≠ gb575))
           have n14_ := Aside0.mk ((by rw [hg]; exact Nat.ne_of_gt (blk_lt (g := gb537) (o := .cells #[.slice none 0 0, .int .i64 x538001_1, .int .i64 x538002_1, .int .i64 x538003_1, .int .i64 x538004_1] 68 (0, 0)) (by (with_reducible repeat refine blk_drewN ?_ _); exact BK537.out)) : gb575 ≠ gb537))
           have n15_ := Aside0.mk ((by rw [hg]; exact Nat.ne_of_lt (blk_lt (g := gb538) (o := .cells #[.int .i64 x539000_1, .int .i64 x539001_1] 60 (0, 0)) (by (with_reducible repeat refine blk_drewN ?_ _); exact BK538.out)) : gb538 ≠ gb575))
           have n16_ := Aside0.mk ((by rw [hg]; exact Nat.ne_of_gt (blk_lt (g := gb538) (o := .cells #[.int .i64 x539000_1, .int .i64 x539001_1] 60 (0, 0)) (by (with_reducible repeat refine blk_drewN ?_ _); exact BK538.out)) : gb575 ≠ gb538))
           have n17_ := Aside0.mk ((by rw [hg]; exact Nat.ne_of_lt (blk_lt (g := gb547) (o := .cells #[.slice Ao37 t548.length co37, .int .i64 t551, .int .i64 t552, .int .i64 t553, .int .i64 t554] 68 (0, 0)) (by (with_reducible repeat refine blk_drewN ?_ _); exact BK547.out)) : gb547 ≠ gb575))
           have n18_ := Aside0.mk ((by rw [hg]; exact Nat.ne_of_gt (blk_lt (g := gb547) (o := .cells #[.slice Ao37 t548.length co37, .int .i64 t551, .int .i64 t552, .int .i64 t553, .int .i64 t554] 68 (0, 0)) (by (with_reducible repeat refine blk_drewN ?_ _); exact BK547.out)) : gb575 ≠ gb547))
           clear HO_7
           clear HO_537000
           clear HO_548000
           clear BK536
           clear BK537
           clear BK538
           clear BK547
           clear HB
           have HO_7 := n0_
           have HO_537000 := n1_
           have HO_548000 := n2_
           have BK536 := n3_
           have BK537 := n4_
           have BK538 := n5_
           have BK547 := n6_
           have HB := n7_
           have BK575 := n8_
           have GW575 := n9_
           have GE575 := n10_
           have NB536_575 := n11_
           have NB575_536 := n12_
           have NB537_575 := n13_
           have NB575_537 := n14_
           have NB538_575 := n15_
           have NB575_538 := n16_
           have NB547_575 := n17_
           have NB575_547 := n18_
           clear n0_ n1_ n2_ n3_ n4_ n5_ n6_ n7_ n8_ n9_ n10_ n11_ n12_ n13_ n14_ n15_ n16_ n17_ n18_
           clear hb hbox hg
           refine hK.out _ _ ⟨(blk_cell BK547.out 0).trans rfl, (blk_cell BK547.out 1).trans rfl, (blk_cell BK547.out 2).trans rfl, (blk_cell BK547.out 3).trans rfl, (blk_cell BK547.out 4).trans rfl, HS5_⟩ (fun hHeld => ?_)
           clear hK K
           refine norm_ (a' := ?_) ?_ ?_
           rotate_left
           ·show Act.put _ (some 10) _ = _
            simp only [Act.put, List.setIfInBounds_toArray, List.set_cons_zero, List.set_cons_succ, i64_w, i32_w]
            rfl
           refine one_ (i := 6) (N := some 39) #[true, true, true, true, true, true, true, false, false, false, true, false, false] rfl rfl (one_of HT_.out (by kernel_rfl)) (by decide) (fun K hK => ?_)
           refine goes_ Try.func68 (by kernel_rfl) rfl #[.agg #[.slice Ao37 t548.length co37, .int .i64 t551, .int .i64 t552, .int .i64 t553, .int .i64 t554], .int .i64 x9_41, .string (rdOf ByteArray.empty y556 x8_1)] (by rfl) rfl rfl (by (try simp only [List.map_toArray, List.map_cons, List.map_nil]); first | done | rfl | (simp only [List.length_drop, List.length_take]; rfl)) ?_
           with_reducible refine (regimenref13_Take.calls (fun k_ => (((P0_0_ k_ ∨ w.heap.size ≤ k_) ∧ (some k_ ≠ (.slice (some ad566) y556.length co49 : Value).ownBlock ∧ (k_ ≠ gb536 ∧ (k_ ≠ gb537 ∧ (k_ ≠ gb538 ∧ k_ ≠ gb547))))) ∧ k_ ≠ gb575)) _ _ t548 t551 t552 t553 t554 x9_41 (rdOf ByteArray.empty y556 x8_1) t567 t570 t571 t572 t573 t574 _ ?side1 A46.out).mono ?_
           (case side1 => exact HO_548000.out)
           rintro e w51 ⟨v568, rfl, ho0, hb⟩
           have HS5_ := (hb.cell (World.block_lt_of_cell? _ _ (hHeld.2.2.2.2.2))).trans (hHeld.2.2.2.2.2)
           refine ⟨_, rfl, ?_⟩
           have n0_ := Aside0.mk (Kd.R_below (by (with_reducible repeat apply Kd.R_drewN); exact HO_7.out) hb)
           have n1_ := Aside0.mk (Kd.V_below (by (with_reducible repeat apply Kd.V_drewN); exact HO_537000.out) hb)
           have n2_ := Aside0.mk (Kd.V_below (by (with_reducible repeat apply Kd.V_drewN); exact HO_548000.out) hb)
           have n3_ := Aside0.mk (Kd.V_lower (Kd.V_mono (ok' := fun k_ => (P0_0_ k_ ∨ w.heap.size ≤ k_) ∧ some k_ ≠ (.slice (some ad566) y556.length co49 : Value).ownBlock ∧ k_ ≠ gb536 ∧ k_ ≠ gb537 ∧ k_ ≠ gb538 ∧ k_ ≠ gb547 ∧ k_ ≠ gb575) ho0 (fun k_ hk_ => ⟨Or.elim hk_ (fun hs_ => hs_.1.1) (fun hn_ => (.inr (Nat.le_trans (below_size (by repeat (first | (with_reducible first | exact HB.out | apply pw_below_drewN | refine below_set ?_ GE536.out | refine below_set ?_ GE537.out | refine below_set ?_ GE538.out | refine below_set ?_ GE547.out | refine below_set ?_ GE575.out) | exact HB.out))) hn_))), Or.elim hk_ (fun hs_ => hs_.1.2.1) (fun hn_ => (Kd.fresh' (Kd.R_lt (by (with_reducible repeat apply Kd.R_drewN); exact HO_7.out)) k_ hn_)), Or.elim hk_ (fun hs_ => hs_.1.2.2.1) (fun hn_ => (Kd.freshB (g := gb536) (o := .cells #[.slice A0_0 l0_0.length c0_0, .int .i64 a0_1, .int .i64 a0_2, .int .i64 a0_3, .int .i64 a0_4] 68 (0, 0)) (by (with_reducible repeat refine blk_drewN ?_ _); exact BK536.out) k_ hn_)), Or.elim hk_ (fun hs_ => hs_.1.2.2.2.1) (fun hn_ => (Kd.freshB (g := gb537) (o := .cells #[.slice none 0 0, .int .i64 x538001_1, .int .i64 x538002_1, .int .i64 x538003_1, .int .i64 x538004_1] 68 (0, 0)) (by (with_reducible repeat refine blk_drewN ?_ _); exact BK537.out) k_ hn_)), Or.elim hk_ (fun hs_ => hs_.1.2.2.2.2.1) (fun hn_ => (Kd.freshB (g := gb538) (o := .cells #[.int .i64 x539000_1, .int .i64 x539001_1] 60 (0, 0)) (by (with_reducible repeat refine blk_drewN ?_ _); exact BK538.out) k_ hn_)), Or.elim hk_ (fun hs_ => hs_.1.2.2.2.2.2) (fun hn_ => (Kd.freshB (g := gb547) (o := .cells #[.slice Ao37 t548.length co37, .int .i64 t551, .int .i64 t552, .int .i64 t553, .int .i64 t554] 68 (0, 0)) (by (with_reducible repeat refine blk_drewN ?_ _); exact BK547.out) k_ hn_)), Or.elim hk_ (fun hs_ => hs_.2) (fun hn_ => (Kd.freshB (g := gb575) (o := .cells #[.slice none 0 0, .int .i64 0, .int .i64 0, .int .i64 0, .int .i64 0] 68 (0, 0)) (by (with_reducible repeat refine blk_drewN ?_ _); exact BK575.out) k_ hn_))⟩)) (below_size (by repeat (first | (with_reducible first | exact HB.out | apply pw_below_drewN | refine below_set ?_ GE536.out | refine below_set ?_ GE537.out | refine below_set ?_ GE538.out | refine below_set ?_ GE547.out | refine below_set ?_ GE575.out) | exact HB.out))))
           have n4_ := Aside0.mk (blk_below (g := gb536) (by exact BK536.out) hb)
           have n5_ := Aside0.mk (blk_below (g := gb537) (by exact BK537.out) hb)
           have n6_ := Aside0.mk (blk_below (g := gb538) (by exact BK538.out) hb)
           have n7_ := Aside0.mk (blk_below (g := gb547) (by exact BK547.out) hb)
           have n8_ := Aside0.mk (blk_below (g := gb575) (by exact BK575.out) hb)
           have n9_ := Aside0.mk (below_step (by repeat (first | (with_reducible first | exact HB.out | apply pw_below_drewN | refine below_set ?_ GE536.out | refine below_set ?_ GE537.out | refine below_set ?_ GE538.out | refine below_set ?_ GE547.out | refine below_set ?_ GE575.out) | exact HB.out)) hb)
           clear HO_7
           clear HO_537000
           clear HO_548000
           clear BK536
           clear BK537
           clear BK538
           clear BK547
           clear BK575
           clear HB
           have HO_7 := n0_
           have HO_537000 := n1_
           have HO_548000 := n2_
           have HO569 := n3_
           have BK536 := n4_
           have BK537 := n5_
           have BK538 := n6_
           have BK547 := n7_
           have BK575 := n8_
           have HB := n9_
           clear n0_ n1_ n2_ n3_ n4_ n5_ n6_ n7_ n8_ n9_
           (try clear hb)
           (try clear hb2)
           (try clear hk)
           (try clear hi)
           (try clear ho0)
           refine hK.out _ _ ⟨(blk_cell BK547.out 0).trans rfl, (blk_cell BK547.out 1).trans rfl, (blk_cell BK547.out 2).trans rfl, (blk_cell BK547.out 3).trans rfl, (blk_cell BK547.out 4).trans rfl, HS5_⟩ (fun hHeld => ?_)
           clear hK K
           refine norm_ (a' := ?_) ?_ ?_
           rotate_left
           ·show Act.put _ (some 39) _ = _
            simp only [Act.put, List.setIfInBounds_toArray, List.set_cons_zero, List.set_cons_succ, i64_w, i32_w]
            rfl
           refine pure_ (i := 7) (N := some 32) (v := ?_) (a' := ?_) #[true, true, true, true, true, true, true, true, false, false, true, false, false] rfl rfl (any_of HT_.out (by kernel_rfl)) (fun _ _ _ h => h) (Or.inl ⟨by rfl, ?_⟩) ?_ ?_
           rotate_left
           ·intro w'
            go_simp
            with_reducible rfl
           rotate_left
           ·simp only [Act.put, List.setIfInBounds_toArray, List.set_cons_zero, List.set_cons_succ, i64_w, i32_w]
            rfl
           refine pure_ (i := 8) (N := some 40) (v := ?_) (a' := ?_) #[true, true, true, true, true, true, true, true, true, false, true, false, false] rfl rfl (any_of HT_.out (by kernel_rfl)) (fun _ _ _ h => h) (Or.inl ⟨by rfl, ?_⟩) ?_ ?_
           rotate_left
           ·intro w'
            go_simp
            with_reducible rfl
           rotate_left
           ·simp only [Act.put, List.setIfInBounds_toArray, List.set_cons_zero, List.set_cons_succ, i64_w, i32_w]
            rfl
           refine pure_ (i := 9) (N := some 41) (v := ?_) (a' := ?_) #[true, true, true, true, true, true, true, true, true, true, true, false, false] rfl rfl (any_of HT_.out (by kernel_rfl)) (fun _ _ _ h => h) (Or.inl ⟨by rfl, ?_⟩) ?_ ?_
           rotate_left
           ·intro w'
            go_simp
            with_reducible rfl
           rotate_left
           ·simp only [Act.put, List.setIfInBounds_toArray, List.set_cons_zero, List.set_cons_succ, i64_w, i32_w]
            rfl
           exact norm_ (by simp only [putAll, Act.put, List.setIfInBounds_toArray, List.set_cons_zero, List.set_cons_succ]) (hCont (v568, gb575) _ ⟨hHeld, (by (with_reducible repeat apply Kd.V_drewN); exact HO569.out), (by (with_reducible repeat apply Kd.V_drewN); exact Kd.V_mono HO_537000.out (fun _ hk => ⟨hk.1.1, ⟨hk.1.2.1, ⟨hk.1.2.2.1, ⟨hk.1.2.2.2.1, ⟨hk.1.2.2.2.2.1, ⟨hk.1.2.2.2.2.2, hk.2⟩⟩⟩⟩⟩⟩)), (by (with_reducible repeat apply Kd.V_drewN); exact Kd.V_mono HO_548000.out (fun _ hk => ⟨hk.1.1, ⟨hk.1.2.1, ⟨hk.1.2.2.1, ⟨hk.1.2.2.2.1, ⟨hk.1.2.2.2.2.1, ⟨hk.1.2.2.2.2.2, hk.2⟩⟩⟩⟩⟩⟩)), (by (with_reducible repeat apply Kd.R_drewN); exact HO_7.out), (by (with_reducible repeat refine blk_drewN ?_ _); exact BK536.out), (by (with_reducible repeat refine blk_drewN ?_ _); exact BK537.out), (by (with_reducible repeat refine blk_drewN ?_ _); exact BK538.out), (by (with_reducible repeat refine blk_drewN ?_ _); exact BK547.out), (by (with_reducible repeat refine blk_drewN ?_ _); exact BK575.out), GW575.out, GE575.out, NB536_575.out, NB575_536.out, NB537_575.out, NB575_537.out, NB538_575.out, NB575_538.out, NB547_575.out, NB575_547.out, (by repeat (first | (with_reducible first | exact HB.out | apply pw_below_drewN | refine below_set ?_ GE536.out | refine below_set ?_ GE537.out | refine below_set ?_ GE538.out | refine below_set ?_ GE547.out | refine below_set ?_ GE575.out) | exact HB.out))⟩)
         rintro ⟨v568, gb575⟩ w52 ⟨hS_, h0_, h1_, h2_, h3_, h4_, h5_, h6_, h7_, h8_, h9_, h10_, h11_, h12_, h13_, h14_, h15_, h16_, h17_, h18_, h19_⟩
         have n0_ : Aside0 (Kd.V k34 34 w52 w.heap.size (fun k_ => (P0_0_ k_ ∨ w.heap.size ≤ k_) ∧ some k_ ≠ (.slice (some ad566) y556.length co49 : Value).ownBlock ∧ k_ ≠ gb536 ∧ k_ ≠ gb537 ∧ k_ ≠ gb538 ∧ k_ ≠ gb547 ∧ k_ ≠ gb575) v568 t567) := ⟨h0_⟩
         have n1_ : Aside0 (Kd.V k34 34 w52 w.heap.size (fun k_ => (P0_0_ k_ ∨ w.heap.size ≤ k_) ∧ some k_ ≠ (.slice (some ad566) y556.length co49 : Value).ownBlock ∧ k_ ≠ gb536 ∧ k_ ≠ gb537 ∧ k_ ≠ gb538 ∧ k_ ≠ gb547 ∧ k_ ≠ gb575) (.slice A0_0 l0_0.length c0_0) l0_0) := ⟨h1_⟩
         have n2_ : Aside0 (Kd.V k34 34 w52 w.heap.size (fun k_ => (P0_0_ k_ ∨ w.heap.size ≤ k_) ∧ some k_ ≠ (.slice (some ad566) y556.length co49 : Value).ownBlock ∧ k_ ≠ gb536 ∧ k_ ≠ gb537 ∧ k_ ≠ gb538 ∧ k_ ≠ gb547 ∧ k_ ≠ gb575) (.slice Ao37 t548.length co37) t548) := ⟨h2_⟩
         have n3_ : Aside0 (Kd.R Kd.string 9 w52 w.heap.size (fun k_ => (w.heap.size ≤ k_)) (.slice (some ad566) y556.length co49) y556) := ⟨h3_⟩
         have n4_ : Aside0 (w52.heap[gb536]? = some (.cells #[.slice A0_0 l0_0.length c0_0, .int .i64 a0_1, .int .i64 a0_2, .int .i64 a0_3, .int .i64 a0_4] 68 (0, 0))) := ⟨h4_⟩
         have n5_ : Aside0 (w52.heap[gb537]? = some (.cells #[.slice none 0 0, .int .i64 x538001_1, .int .i64 x538002_1, .int .i64 x538003_1, .int .i64 x538004_1] 68 (0, 0))) := ⟨h5_⟩
         have n6_ : Aside0 (w52.heap[gb538]? = some (.cells #[.int .i64 x539000_1, .int .i64 x539001_1] 60 (0, 0))) := ⟨h6_⟩
         have n7_ : Aside0 (w52.heap[gb547]? = some (.cells #[.slice Ao37 t548.length co37, .int .i64 t551, .int .i64 t552, .int .i64 t553, .int .i64 t554] 68 (0, 0))) := ⟨h7_⟩
         have n8_ : Aside0 (w52.heap[gb575]? = some (.cells #[.slice none 0 0, .int .i64 0, .int .i64 0, .int .i64 0, .int .i64 0] 68 (0, 0))) := ⟨h8_⟩
         have n9_ : Aside0 (w.heap.size ≤ gb575) := ⟨h9_⟩
         have n10_ : Aside0 (w.heap.size ≤ gb575) := ⟨h10_⟩
         have n11_ : Aside0 (gb536 ≠ gb575) := ⟨h11_⟩
         have n12_ : Aside0 (gb575 ≠ gb536) := ⟨h12_⟩
         have n13_ : Aside0 (gb537 ≠ gb575) := ⟨h13_⟩
         have n14_ : Aside0 (gb575 ≠ gb537) := ⟨h14_⟩
         have n15_ : Aside0 (gb538 ≠ gb575) := ⟨h15_⟩
         have n16_ : Aside0 (gb575 ≠ gb538) := ⟨h16_⟩
         have n17_ : Aside0 (gb547 ≠ gb575) := ⟨h17_⟩
         have n18_ : Aside0 (gb575 ≠ gb547) := ⟨h18_⟩
         have n19_ : Aside0 (Below w.heap.size w w52) := ⟨h19_⟩
         clear HO_7
         clear HO_537000
         clear HO_548000
         clear BK536
         clear BK537
         clear BK538
         clear BK547
         clear HB
         clear h0_ h1_ h2_ h3_ h4_ h5_ h6_ h7_ h8_ h9_ h10_ h11_ h12_ h13_ h14_ h15_ h16_ h17_ h18_ h19_
         have HO569 := n0_
         have HO_537000 := n1_
         have HO_548000 := n2_
         have HO_7 := n3_
         have BK536 := n4_
         have BK537 := n5_
         have BK538 := n6_
         have BK547 := n7_
         have BK575 := n8_
         have GW575 := n9_
         have GE575 := n10_
         have NB536_575 := n11_
         have NB575_536 := n12_
         have NB537_575 := n13_
         have NB575_537 := n14_
         have NB538_575 := n15_
         have NB575_538 := n16_
         have NB547_575 := n17_
         have NB575_547 := n18_
         have HB := n19_
         clear n0_ n1_ n2_ n3_ n4_ n5_ n6_ n7_ n8_ n9_ n10_ n11_ n12_ n13_ n14_ n15_ n16_ n17_ n18_ n19_
         have hHeld : w52.cell? ⟨gb547, 0, none⟩ = some (.slice Ao37 t548.length co37) ∧ w52.cell? ⟨gb547, 1, none⟩ = some (.int .i64 t551) ∧ w52.cell? ⟨gb547, 2, none⟩ = some (.int .i64 t552) ∧ w52.cell? ⟨gb547, 3, none⟩ = some (.int .i64 t553) ∧ w52.cell? ⟨gb547, 4, none⟩ = some (.int .i64 t554) ∧ w52.cell? (ad566.add (x8_1).toNat) = some (.string (rdOf ByteArray.empty y556 x8_1)) := hS_
         obtain ⟨Ao53, co53, eo53⟩ := Kd.V_slice HO569.out
         (first | subst eo53 | (injection eo53 with f1_ f2_ f3_; have f4_ := f1_.symm; have f5_ := f3_.symm; clear f1_ f2_ f3_; subst f4_; subst f5_))
         refine norm_ (a' := ?_) ?_ ?_
         rotate_left
         ·simp only [putAll, Act.put, List.setIfInBounds_toArray, List.set_cons_zero, List.set_cons_succ]
          rfl
         refine one_ (i := 11) (N := none) #[true, true, true, true, true, true, true, true, true, true, true, true, false] rfl rfl (one_of HT_.out (by kernel_rfl)) (by decide) (fun K hK => ?_)
         have hs54 : w52.cell? ⟨gb575, 0, none⟩ = some (.slice none 0 0) := (blk_cell BK575.out 0).trans rfl
         have hfs54 := blk_frozen BK575.out 0
         have hns54_0 := NB536_575.out
         have hns54_1 := NB537_575.out
         have hns54_2 := NB538_575.out
         have hns54_3 := NB547_575.out
         have hms54_0 := NB575_536.out
         have hms54_1 := NB575_537.out
         have hms54_2 := NB575_538.out
         have hms54_3 := NB575_547.out
         have hs55 : w52.cell? ⟨gb575, 1, none⟩ = some (.int .i64 0) := (blk_cell BK575.out 1).trans rfl
         have hfs55 := blk_frozen BK575.out 1
         have hns55_0 := NB536_575.out
         have hns55_1 := NB537_575.out
         have hns55_2 := NB538_575.out
         have hns55_3 := NB547_575.out
         have hms55_0 := NB575_536.out
         have hms55_1 := NB575_537.out
         have hms55_2 := NB575_538.out
         have hms55_3 := NB575_547.out
         have hs56 : w52.cell? ⟨gb575, 2, none⟩ = some (.int .i64 0) := (blk_cell BK575.out 2).trans rfl
         have hfs56 := blk_frozen BK575.out 2
         have hns56_0 := NB536_575.out
         have hns56_1 := NB537_575.out
         have hns56_2 := NB538_575.out
         have hns56_3 := NB547_575.out
         have hms56_0 := NB575_536.out
         have hms56_1 := NB575_537.out
         have hms56_2 := NB575_538.out
         have hms56_3 := NB575_547.out
         have hs57 : w52.cell? ⟨gb575, 3, none⟩ = some (.int .i64 0) := (blk_cell BK575.out 3).trans rfl
         have hfs57 := blk_frozen BK575.out 3
         have hns57_0 := NB536_575.out
         have hns57_1 := NB537_575.out
         have hns57_2 := NB538_575.out
         have hns57_3 := NB547_575.out
         have hms57_0 := NB575_536.out
         have hms57_1 := NB575_537.out
         have hms57_2 := NB575_538.out
         have hms57_3 := NB575_547.out
         have hs58 : w52.cell? ⟨gb575, 4, none⟩ = some (.int .i64 0) := (blk_cell BK575.out 4).trans rfl
         have hfs58 := blk_frozen BK575.out 4
         have hns58_0 := NB536_575.out
         have hns58_1 := NB537_575.out
         have hns58_2 := NB538_575.out
         have hns58_3 := NB547_575.out
         have hms58_0 := NB575_536.out
         have hms58_1 := NB575_537.out
         have hms58_2 := NB575_538.out
         have hms58_3 := NB575_547.out
         refine skip_ (w1 := ?_) (by rfl) rfl ?_ ?_
         rotate_left
         ·go_simp
          rfl
         refine hK.out _ _ ⟨((cell_far (p := ⟨gb575, _, none⟩) NB547_575.out _).trans (((cell_far (p := ⟨gb575, _, none⟩) NB547_575.out _).trans (((cell_far (p := ⟨gb575, _, none⟩) NB547_575.out _).trans (((cell_far (p := ⟨gb575, _, none⟩) NB547_575.out _).trans (((cell_far (p := ⟨gb575, _, none⟩) NB547_575.out _).trans (hHeld.1)))))))))), ((cell_far (p := ⟨gb575, _, none⟩) NB547_575.out _).trans (((cell_far (p := ⟨gb575, _, none⟩) NB547_575.out _).trans (((cell_far (p := ⟨gb575, _, none⟩) NB547_575.out _).trans (((cell_far (p := ⟨gb575, _, none⟩) NB547_575.out _).trans (((cell_far (p := ⟨gb575, _, none⟩) NB547_575.out _).trans (hHeld.2.1)))))))))), ((cell_far (p := ⟨gb575, _, none⟩) NB547_575.out _).trans (((cell_far (p := ⟨gb575, _, none⟩) NB547_575.out _).trans (((cell_far (p := ⟨gb575, _, none⟩) NB547_575.out _).trans (((cell_far (p := ⟨gb575, _, none⟩) NB547_575.out _).trans (((cell_far (p := ⟨gb575, _, none⟩) NB547_575.out _).trans (hHeld.2.2.1)))))))))), ((cell_far (p := ⟨gb575, _, none⟩) NB547_575.out _).trans (((cell_far (p := ⟨gb575, _, none⟩) NB547_575.out _).trans (((cell_far (p := ⟨gb575, _, none⟩) NB547_575.out _).trans (((cell_far (p := ⟨gb575, _, none⟩) NB547_575.out _).trans (((cell_far (p := ⟨gb575, _, none⟩) NB547_575.out _).trans (hHeld.2.2.2.1)))))))))), ((cell_far (p := ⟨gb575, _, none⟩) NB547_575.out _).trans (((cell_far (p := ⟨gb575, _, none⟩) NB547_575.out _).trans (((cell_far (p := ⟨gb575, _, none⟩) NB547_575.out _).trans (((cell_far (p := ⟨gb575, _, none⟩) NB547_575.out _).trans (((cell_far (p := ⟨gb575, _, none⟩) NB547_575.out _).trans (hHeld.2.2.2.2.1)))))))))), ((cell_far (p := ⟨gb575, _, none⟩) (by first | exact Kd.own_blk (Kd.R_ne HO_7.out BK575.out (by decide)) | (rw [add_block]; exact Kd.own_blk (Kd.R_ne HO_7.out BK575.out (by decide))) | (show (Addr.add _ _).block ≠ _; rw [add_block]; exact Kd.own_blk (Kd.R_ne HO_7.out BK575.out (by decide))) | (dsimp only; exact Kd.own_blk (Kd.R_ne HO_7.out BK575.out (by decide)))) _).trans (((cell_far (p := ⟨gb575, _, none⟩) (by first | exact Kd.own_blk (Kd.R_ne HO_7.out BK575.out (by decide)) | (rw [add_block]; exact Kd.own_blk (Kd.R_ne HO_7.out BK575.out (by decide))) | (show (Addr.add _ _).block ≠ _; rw [add_block]; exact Kd.own_blk (Kd.R_ne HO_7.out BK575.out (by decide))) | (dsimp only; exact Kd.own_blk (Kd.R_ne HO_7.out BK575.out (by decide)))) _).trans (((cell_far (p := ⟨gb575, _, none⟩) (by first | exact Kd.own_blk (Kd.R_ne HO_7.out BK575.out (by decide)) | (rw [add_block]; exact Kd.own_blk (Kd.R_ne HO_7.out BK575.out (by decide))) | (show (Addr.add _ _).block ≠ _; rw [add_block]; exact Kd.own_blk (Kd.R_ne HO_7.out BK575.out (by decide))) | (dsimp only; exact Kd.own_blk (Kd.R_ne HO_7.out BK575.out (by decide)))) _).trans (((cell_far (p := ⟨gb575, _, none⟩) (by first | exact Kd.own_blk (Kd.R_ne HO_7.out BK575.out (by decide)) | (rw [add_block]; exact Kd.own_blk (Kd.R_ne HO_7.out BK575.out (by decide))) | (show (Addr.add _ _).block ≠ _; rw [add_block]; exact Kd.own_blk (Kd.R_ne HO_7.out BK575.out (by decide))) | (dsimp only; exact Kd.own_blk (Kd.R_ne HO_7.out BK575.out (by decide)))) _).trans (((cell_far (p := ⟨gb575, _, none⟩) (by first | exact Kd.own_blk (Kd.R_ne HO_7.out BK575.out (by decide)) | (rw [add_block]; exact Kd.own_blk (Kd.R_ne HO_7.out BK575.out (by decide))) | (show (Addr.add _ _).block ≠ _; rw [add_block]; exact Kd.own_blk (Kd.R_ne HO_7.out BK575.out (by decide))) | (dsimp only; exact Kd.own_blk (Kd.R_ne HO_7.out BK575.out (by decide)))) _).trans (hHeld.2.2.2.2.2))))))))))⟩ (fun hHeld => ?_)
         clear hK K
         refine pure_ (i := 12) (N := some 11) (v := ?_) (a' := ?_) #[true, true, true, true, true, true, true, true, true, true, true, true, true] rfl rfl (any_of HT_.out (by kernel_rfl)) (fun _ _ _ h => h) (Or.inl ⟨by rfl, ?_⟩) ?_ ?_
         rotate_left
         ·intro w'
          go_simp
          with_reducible rfl
         rotate_left
         ·simp only [Act.put, List.setIfInBounds_toArray, List.set_cons_zero, List.set_cons_succ, i64_w, i32_w]
          rfl
         refine done_ (done_of HT_.out (by kernel_rfl)) ?_
         go_upto_region 13 with (fail)
         go_cut [50] (fun v50 wc => ∃ (kq : Nat) (x50_46 : Bool), v50 = .bool x50_46 ∧ Aside0 (regimenref14_Read.j2 kq t555 y556 x8_1 t574 x50_46 t548 t551 t552 t553 t554 t567 t570 t571 t572 t573 = some (r1, r2, r3, r4, r5, r6, r7)) ∧ Aside0 (kq ≤ kj41) ∧ Aside0 (Kd.R Kd.string 9 wc w.heap.size (fun k_ => (w.heap.size ≤ k_)) (.slice (some ad566) y556.length co49) y556) ∧ Aside0 (Kd.V k34 34 wc w.heap.size (fun k_ => (P0_0_ k_ ∨ w.heap.size ≤ k_) ∧ some k_ ≠ ((.slice (some ad566) y556.length co49) : Value).ownBlock ∧ k_ ≠ gb536 ∧ k_ ≠ gb537 ∧ k_ ≠ gb538 ∧ k_ ≠ gb547 ∧ k_ ≠ gb575) (.slice A0_0 l0_0.length c0_0) l0_0) ∧ Aside0 (Kd.V k34 34 wc w.heap.size (fun k_ => (P0_0_ k_ ∨ w.heap.size ≤ k_) ∧ some k_ ≠ ((.slice (some ad566) y556.length co49) : Value).ownBlock ∧ k_ ≠ gb536 ∧ k_ ≠ gb537 ∧ k_ ≠ gb538 ∧ k_ ≠ gb547 ∧ k_ ≠ gb575) (.slice Ao37 t548.length co37) t548) ∧ Aside0 (Kd.V k34 34 wc w.heap.size (fun k_ => (P0_0_ k_ ∨ w.heap.size ≤ k_) ∧ some k_ ≠ ((.slice (some ad566) y556.length co49) : Value).ownBlock ∧ k_ ≠ gb536 ∧ k_ ≠ gb537 ∧ k_ ≠ gb538 ∧ k_ ≠ gb547 ∧ k_ ≠ gb575) (.slice Ao53 t567.length co53) t567) ∧ Aside0 (wc.heap[gb536]? = some (.cells #[(.slice A0_0 l0_0.length c0_0), .int .i64 a0_1, .int .i64 a0_2, .int .i64 a0_3, .int .i64 a0_4] 68 (0, 0))) ∧ Aside0 (wc.heap[gb537]? = some (.cells #[(.slice none 0 0), .int .i64 x538001_1, .int .i64 x538002_1, .int .i64 x538003_1, .int .i64 x538004_1] 68 (0, 0))) ∧ Aside0 (wc.heap[gb538]? = some (.cells #[.int .i64 x539000_1, .int .i64 x539001_1] 60 (0, 0))) ∧ Aside0 (wc.heap[gb547]? = some (.cells #[(.slice Ao37 t548.length co37), .int .i64 t551, .int .i64 t552, .int .i64 t553, .int .i64 t554] 68 (0, 0))) ∧ Aside0 (wc.heap[gb575]? = some (.cells #[(.slice Ao53 t567.length co53), .int .i64 t570, .int .i64 t571, .int .i64 t572, .int .i64 t573] 68 (0, 0))) ∧ Aside0 (Below w.heap.size w wc))
         case first =>
          have H := HC47.out
          clear HC47
          by_cases c59 : t574 = true
          ·subst c59
           have H1 : (if x8_1 = 2 then (regimenref14_Read.j2 kj41 t555 y556 x8_1 true (decide (t555 > 100)) t548 t551 t552 t553 t554 t567 t570 t571 t572 t573) else (regimenref14_Read.j2 kj41 t555 y556 x8_1 true false t548 t551 t552 t553 t554 t567 t570 t571 t572 t573)) = some (r1, r2, r3, r4, r5, r6, r7) := by rw [if_pos rfl] at H; exact H
           clear H
           have H := H1
           clear H1
           by_cases c60 : x8_1 = 2
           ·rw [if_pos c60] at H
            have c60b0 : (x8_1 == 2) = true := beq_iff_eq.mpr c60
            have c60b1 : (x8_1 != 2) = false := bne_eq_false_iff_eq.mpr c60
            clear c60
            (first | rw [c60b0] | rw [c60b1] | (simp only [i64_w, i32_w]; rw [c60b0]) | skip)
            have H' := Aside0.mk H
            clear H
            go_wp2
            go_meet
            case rel => exact ⟨_, (decide (t555 > 100)), (by first | rfl | (simp; done) | (simp [*]; done)), H', ⟨by have := HK1.out; have := HJ41.out; first | omega | exact Nat.le_refl _⟩, ⟨by (with_reducible repeat apply Kd.R_drewN); exact Kd.R_mono (Kd.R_far (p := ⟨gb575, 4, none⟩) (Kd.R_far (p := ⟨gb575, 3, none⟩) (Kd.R_far (p := ⟨gb575, 2, none⟩) (Kd.R_far (p := ⟨gb575, 1, none⟩) (Kd.R_far (p := ⟨gb575, 0, none⟩) (Kd.R_types HO_7.out BK575.out (by decide)) (fun _ hk => hk.2) (.slice Ao53 t567.length co53)) (fun _ hk => hk.2) (.int .i64 t570)) (fun _ hk => hk.2) (.int .i64 t571)) (fun _ hk => hk.2) (.int .i64 t572)) (fun _ hk => hk.2) (.int .i64 t573)) (fun _ hk => hk.1)⟩, ⟨by (with_reducible repeat apply Kd.V_drewN); exact Kd.V_mono (Kd.V_far (p := ⟨gb575, 4, none⟩) (Kd.V_far (p := ⟨gb575, 3, none⟩) (Kd.V_far (p := ⟨gb575, 2, none⟩) (Kd.V_far (p := ⟨gb575, 1, none⟩) (Kd.V_far (p := ⟨gb575, 0, none⟩) (Kd.V_mono HO_537000.out (fun k_ hk => (⟨hk, hk.2.2.2.2.2.2⟩ : _ ∧ k_ ≠ gb575))) (fun _ hk => hk.2) (.slice Ao53 t567.length co53)) (fun _ hk => hk.2) (.int .i64 t570)) (fun _ hk => hk.2) (.int .i64 t571)) (fun _ hk => hk.2) (.int .i64 t572)) (fun _ hk => hk.2) (.int .i64 t573)) (fun _ hk => ⟨hk.1.1, ⟨hk.1.2.1, ⟨hk.1.2.2.1, ⟨hk.1.2.2.2.1, ⟨hk.1.2.2.2.2.1, ⟨hk.1.2.2.2.2.2.1, hk.1.2.2.2.2.2.2⟩⟩⟩⟩⟩⟩)⟩, ⟨by (with_reducible repeat apply Kd.V_drewN); exact Kd.V_mono (Kd.V_far (p := ⟨gb575, 4, none⟩) (Kd.V_far (p := ⟨gb575, 3, none⟩) (Kd.V_far (p := ⟨gb575, 2, none⟩) (Kd.V_far (p := ⟨gb575, 1, none⟩) (Kd.V_far (p := ⟨gb575, 0, none⟩) (Kd.V_mono HO_548000.out (fun k_ hk => (⟨hk, hk.2.2.2.2.2.2⟩ : _ ∧ k_ ≠ gb575))) (fun _ hk => hk.2) (.slice Ao53 t567.length co53)) (fun _ hk => hk.2) (.int .i64 t570)) (fun _ hk => hk.2) (.int .i64 t571)) (fun _ hk => hk.2) (.int .i64 t572)) (fun _ hk => hk.2) (.int .i64 t573)) (fun _ hk => ⟨hk.1.1, ⟨hk.1.2.1, ⟨hk.1.2.2.1, ⟨hk.1.2.2.2.1, ⟨hk.1.2.2.2.2.1, ⟨hk.1.2.2.2.2.2.1, hk.1.2.2.2.2.2.2⟩⟩⟩⟩⟩⟩)⟩, ⟨by (with_reducible repeat apply Kd.V_drewN); exact Kd.V_mono (Kd.V_far (p := ⟨gb575, 4, none⟩) (Kd.V_far (p := ⟨gb575, 3, none⟩) (Kd.V_far (p := ⟨gb575, 2, none⟩) (Kd.V_far (p := ⟨gb575, 1, none⟩) (Kd.V_far (p := ⟨gb575, 0, none⟩) (Kd.V_mono HO569.out (fun k_ hk => (⟨hk, hk.2.2.2.2.2.2⟩ : _ ∧ k_ ≠ gb575))) (fun _ hk => hk.2) (.slice Ao53 t567.length co53)) (fun _ hk => hk.2) (.int .i64 t570)) (fun _ hk => hk.2) (.int .i64 t571)) (fun _ hk => hk.2) (.int .i64 t572)) (fun _ hk => hk.2) (.int .i64 t573)) (fun _ hk => ⟨hk.1.1, ⟨hk.1.2.1, ⟨hk.1.2.2.1, ⟨hk.1.2.2.2.1, ⟨hk.1.2.2.2.2.1, ⟨hk.1.2.2.2.2.2.1, hk.1.2.2.2.2.2.2⟩⟩⟩⟩⟩⟩)⟩, ⟨by (with_reducible repeat refine blk_drewN ?_ _); refine blk_far ?_ NB536_575.out _; (with_reducible repeat refine blk_drewN ?_ _); refine blk_far ?_ NB536_575.out _; (with_reducible repeat refine blk_drewN ?_ _); refine blk_far ?_ NB536_575.out _; (with_reducible repeat refine blk_drewN ?_ _); refine blk_far ?_ NB536_575.out _; (with_reducible repeat refine blk_drewN ?_ _); refine blk_far ?_ NB536_575.out _; (with_reducible repeat refine blk_drewN ?_ _); exact BK536.out⟩, ⟨by (with_reducible repeat refine blk_drewN ?_ _); refine blk_far ?_ NB537_575.out _; (with_reducible repeat refine blk_drewN ?_ _); refine blk_far ?_ NB537_575.out _; (with_reducible repeat refine blk_drewN ?_ _); refine blk_far ?_ NB537_575.out _; (with_reducible repeat refine blk_drewN ?_ _); refine blk_far ?_ NB537_575.out _; (with_reducible repeat refine blk_drewN ?_ _); refine blk_far ?_ NB537_575.out _; (with_reducible repeat refine blk_drewN ?_ _); exact BK537.out⟩, ⟨by (with_reducible repeat refine blk_drewN ?_ _); refine blk_far ?_ NB538_575.out _; (with_reducible repeat refine blk_drewN ?_ _); refine blk_far ?_ NB538_575.out _; (with_reducible repeat refine blk_drewN ?_ _); refine blk_far ?_ NB538_575.out _; (with_reducible repeat refine blk_drewN ?_ _); refine blk_far ?_ NB538_575.out _; (with_reducible repeat refine blk_drewN ?_ _); refine blk_far ?_ NB538_575.out _; (with_reducible repeat refine blk_drewN ?_ _); exact BK538.out⟩, ⟨by (with_reducible repeat refine blk_drewN ?_ _); refine blk_far ?_ NB547_575.out _; (with_reducible repeat refine blk_drewN ?_ _); refine blk_far ?_ NB547_575.out _; (with_reducible repeat refine blk_drewN ?_ _); refine blk_far ?_ NB547_575.out _; (with_reducible repeat refine blk_drewN ?_ _); refine blk_far ?_ NB547_575.out _; (with_reducible repeat refine blk_drewN ?_ _); refine blk_far ?_ NB547_575.out _; (with_reducible repeat refine blk_drewN ?_ _); exact BK547.out⟩, ⟨by (with_reducible repeat refine blk_drewN ?_ _); refine blk_put (cs := #[.slice Ao53 t567.length co53, .int .i64 t570, .int .i64 t571, .int .i64 t572, .int .i64 0]) ?_ 4 _ rfl; (with_reducible repeat refine blk_drewN ?_ _); refine blk_put (cs := #[.slice Ao53 t567.length co53, .int .i64 t570, .int .i64 t571, .int .i64 0, .int .i64 0]) ?_ 3 _ rfl; (with_reducible repeat refine blk_drewN ?_ _); refine blk_put (cs := #[.slice Ao53 t567.length co53, .int .i64 t570, .int .i64 0, .int .i64 0, .int .i64 0]) ?_ 2 _ rfl; (with_reducible repeat refine blk_drewN ?_ _); refine blk_put (cs := #[.slice Ao53 t567.length co53, .int .i64 0, .int .i64 0, .int .i64 0, .int .i64 0]) ?_ 1 _ rfl; (with_reducible repeat refine blk_drewN ?_ _); refine blk_put (cs := #[.slice none 0 0, .int .i64 0, .int .i64 0, .int .i64 0, .int .i64 0]) ?_ 0 _ rfl; (with_reducible repeat refine blk_drewN ?_ _); exact BK575.out⟩, ⟨by repeat (first | (with_reducible first | exact HB.out | apply pw_below_drewN | refine below_set ?_ GE536.out | refine below_set ?_ GE537.out | refine below_set ?_ GE538.out | refine below_set ?_ GE547.out | refine below_set ?_ GE575.out) | exact HB.out)⟩⟩
           ·rw [if_neg c60] at H
            have c60b0 : (x8_1 == 2) = false := beq_eq_false_iff_ne.mpr c60
            have c60b1 : (x8_1 != 2) = true := bne_iff_ne.mpr c60
            (first | rw [c60b0] | rw [c60b1] | (simp only [i64_w, i32_w]; rw [c60b0]) | skip)
            have H' := Aside0.mk H
            clear H
            go_wp2
            go_meet
            case rel => exact ⟨_, (false), (by first | rfl | (simp; done) | (simp [*]; done)), H', ⟨by have := HK1.out; have := HJ41.out; first | omega | exact Nat.le_refl _⟩, ⟨by (with_reducible repeat apply Kd.R_drewN); exact Kd.R_mono (Kd.R_far (p := ⟨gb575, 4, none⟩) (Kd.R_far (p := ⟨gb575, 3, none⟩) (Kd.R_far (p := ⟨gb575, 2, none⟩) (Kd.R_far (p := ⟨gb575, 1, none⟩) (Kd.R_far (p := ⟨gb575, 0, none⟩) (Kd.R_types HO_7.out BK575.out (by decide)) (fun _ hk => hk.2) (.slice Ao53 t567.length co53)) (fun _ hk => hk.2) (.int .i64 t570)) (fun _ hk => hk.2) (.int .i64 t571)) (fun _ hk => hk.2) (.int .i64 t572)) (fun _ hk => hk.2) (.int .i64 t573)) (fun _ hk => hk.1)⟩, ⟨by (with_reducible repeat apply Kd.V_drewN); exact Kd.V_mono (Kd.V_far (p := ⟨gb575, 4, none⟩) (Kd.V_far (p := ⟨gb575, 3, none⟩) (Kd.V_far (p := ⟨gb575, 2, none⟩) (Kd.V_far (p := ⟨gb575, 1, none⟩) (Kd.V_far (p := ⟨gb575, 0, none⟩) (Kd.V_mono HO_537000.out (fun k_ hk => (⟨hk, hk.2.2.2.2.2.2⟩ : _ ∧ k_ ≠ gb575))) (fun _ hk => hk.2) (.slice Ao53 t567.length co53)) (fun _ hk => hk.2) (.int .i64 t570)) (fun _ hk => hk.2) (.int .i64 t571)) (fun _ hk => hk.2) (.int .i64 t572)) (fun _ hk => hk.2) (.int .i64 t573)) (fun _ hk => ⟨hk.1.1, ⟨hk.1.2.1, ⟨hk.1.2.2.1, ⟨hk.1.2.2.2.1, ⟨hk.1.2.2.2.2.1, ⟨hk.1.2.2.2.2.2.1, hk.1.2.2.2.2.2.2⟩⟩⟩⟩⟩⟩)⟩, ⟨by (with_reducible repeat apply Kd.V_drewN); exact Kd.V_mono (Kd.V_far (p := ⟨gb575, 4, none⟩) (Kd.V_far (p := ⟨gb575, 3, none⟩) (Kd.V_far (p := ⟨gb575, 2, none⟩) (Kd.V_far (p := ⟨gb575, 1, none⟩) (Kd.V_far (p := ⟨gb575, 0, none⟩) (Kd.V_mono HO_548000.out (fun k_ hk => (⟨hk, hk.2.2.2.2.2.2⟩ : _ ∧ k_ ≠ gb575))) (fun _ hk => hk.2) (.slice Ao53 t567.length co53)) (fun _ hk => hk.2) (.int .i64 t570)) (fun _ hk => hk.2) (.int .i64 t571)) (fun _ hk => hk.2) (.int .i64 t572)) (fun _ hk => hk.2) (.int .i64 t573)) (fun _ hk => ⟨hk.1.1, ⟨hk.1.2.1, ⟨hk.1.2.2.1, ⟨hk.1.2.2.2.1, ⟨hk.1.2.2.2.2.1, ⟨hk.1.2.2.2.2.2.1, hk.1.2.2.2.2.2.2⟩⟩⟩⟩⟩⟩)⟩, ⟨by (with_reducible repeat apply Kd.V_drewN); exact Kd.V_mono (Kd.V_far (p := ⟨gb575, 4, none⟩) (Kd.V_far (p := ⟨gb575, 3, none⟩) (Kd.V_far (p := ⟨gb575, 2, none⟩) (Kd.V_far (p := ⟨gb575, 1, none⟩) (Kd.V_far (p := ⟨gb575, 0, none⟩) (Kd.V_mono HO569.out (fun k_ hk => (⟨hk, hk.2.2.2.2.2.2⟩ : _ ∧ k_ ≠ gb575))) (fun _ hk => hk.2) (.slice Ao53 t567.length co53)) (fun _ hk => hk.2) (.int .i64 t570)) (fun _ hk => hk.2) (.int .i64 t571)) (fun _ hk => hk.2) (.int .i64 t572)) (fun _ hk => hk.2) (.int .i64 t573)) (fun _ hk => ⟨hk.1.1, ⟨hk.1.2.1, ⟨hk.1.2.2.1, ⟨hk.1.2.2.2.1, ⟨hk.1.2.2.2.2.1, ⟨hk.1.2.2.2.2.2.1, hk.1.2.2.2.2.2.2⟩⟩⟩⟩⟩⟩)⟩, ⟨by (with_reducible repeat refine blk_drewN ?_ _); refine blk_far ?_ NB536_575.out _; (with_reducible repeat refine blk_drewN ?_ _); refine blk_far ?_ NB536_575.out _; (with_reducible repeat refine blk_drewN ?_ _); refine blk_far ?_ NB536_575.out _; (with_reducible repeat refine blk_drewN ?_ _); refine blk_far ?_ NB536_575.out _; (with_reducible repeat refine blk_drewN ?_ _); refine blk_far ?_ NB536_575.out _; (with_reducible repeat refine blk_drewN ?_ _); exact BK536.out⟩, ⟨by (with_reducible repeat refine blk_drewN ?_ _); refine blk_far ?_ NB537_575.out _; (with_reducible repeat refine blk_drewN ?_ _); refine blk_far ?_ NB537_575.out _; (with_reducible repeat refine blk_drewN ?_ _); refine blk_far ?_ NB537_575.out _; (with_reducible repeat refine blk_drewN ?_ _); refine blk_far ?_ NB537_575.out _; (with_reducible repeat refine blk_drewN ?_ _); refine blk_far ?_ NB537_575.out _; (with_reducible repeat refine blk_drewN ?_ _); exact BK537.out⟩, ⟨by (with_reducible repeat refine blk_drewN ?_ _); refine blk_far ?_ NB538_575.out _; (with_reducible repeat refine blk_drewN ?_ _); refine blk_far ?_ NB538_575.out _; (with_reducible repeat refine blk_drewN ?_ _); refine blk_far ?_ NB538_575.out _; (with_reducible repeat refine blk_drewN ?_ _); refine blk_far ?_ NB538_575.out _; (with_reducible repeat refine blk_drewN ?_ _); refine blk_far ?_ NB538_575.out _; (with_reducible repeat refine blk_drewN ?_ _); exact BK538.out⟩, ⟨by (with_reducible repeat refine blk_drewN ?_ _); refine blk_far ?_ NB547_575.out _; (with_reducible repeat refine blk_drewN ?_ _); refine blk_far ?_ NB547_575.out _; (with_reducible repeat refine blk_drewN ?_ _); refine blk_far ?_ NB547_575.out _; (with_reducible repeat refine blk_drewN ?_ _); refine blk_far ?_ NB547_575.out _; (with_reducible repeat refine blk_drewN ?_ _); refine blk_far ?_ NB547_575.out _; (with_reducible repeat refine blk_drewN ?_ _); exact BK547.out⟩, ⟨by (with_reducible repeat refine blk_drewN ?_ _); refine blk_put (cs := #[.slice Ao53 t567.length co53, .int .i64 t570, .int .i64 t571, .int .i64 t572, .int .i64 0]) ?_ 4 _ rfl; (with_reducible repeat refine blk_drewN ?_ _); refine blk_put (cs := #[.slice Ao53 t567.length co53, .int .i64 t570, .int .i64 t571, .int .i64 0, .int .i64 0]) ?_ 3 _ rfl; (with_reducible repeat refine blk_drewN ?_ _); refine blk_put (cs := #[.slice Ao53 t567.length co53, .int .i64 t570, .int .i64 0, .int .i64 0, .int .i64 0]) ?_ 2 _ rfl; (with_reducible repeat refine blk_drewN ?_ _); refine blk_put (cs := #[.slice Ao53 t567.length co53, .int .i64 0, .int .i64 0, .int .i64 0, .int .i64 0]) ?_ 1 _ rfl; (with_reducible repeat refine blk_drewN ?_ _); refine blk_put (cs := #[.slice none 0 0, .int .i64 0, .int .i64 0, .int .i64 0, .int .i64 0]) ?_ 0 _ rfl; (with_reducible repeat refine blk_drewN ?_ _); exact BK575.out⟩, ⟨by repeat (first | (with_reducible first | exact HB.out | apply pw_below_drewN | refine below_set ?_ GE536.out | refine below_set ?_ GE537.out | refine below_set ?_ GE538.out | refine below_set ?_ GE547.out | refine below_set ?_ GE575.out) | exact HB.out)⟩⟩
          ·replace c59 := Bool.eq_false_iff.mpr c59
           subst c59
           have H1 : (regimenref14_Read.j2 kj41 t555 y556 x8_1 false false t548 t551 t552 t553 t554 t567 t570 t571 t572 t573) = some (r1, r2, r3, r4, r5, r6, r7) := by rw [if_neg (show ¬ (false = true) by decide)] at H; exact H
           clear H
           have H := H1
           clear H1
           have H' := Aside0.mk H
           clear H
           go_wp2
           go_meet
           case rel => exact ⟨_, (false), (by first | rfl | (simp; done) | (simp [*]; done)), H', ⟨by have := HK1.out; have := HJ41.out; first | omega | exact Nat.le_refl _⟩, ⟨by (with_reducible repeat apply Kd.R_drewN); exact Kd.R_mono (Kd.R_far (p := ⟨gb575, 4, none⟩) (Kd.R_far (p := ⟨gb575, 3, none⟩) (Kd.R_far (p := ⟨gb575, 2, none⟩) (Kd.R_far (p := ⟨gb575, 1, none⟩) (Kd.R_far (p := ⟨gb575, 0, none⟩) (Kd.R_types HO_7.out BK575.out (by decide)) (fun _ hk => hk.2) (.slice Ao53 t567.length co53)) (fun _ hk => hk.2) (.int .i64 t570)) (fun _ hk => hk.2) (.int .i64 t571)) (fun _ hk => hk.2) (.int .i64 t572)) (fun _ hk => hk.2) (.int .i64 t573)) (fun _ hk => hk.1)⟩, ⟨by (with_reducible repeat apply Kd.V_drewN); exact Kd.V_mono (Kd.V_far (p := ⟨gb575, 4, none⟩) (Kd.V_far (p := ⟨gb575, 3, none⟩) (Kd.V_far (p := ⟨gb575, 2, none⟩) (Kd.V_far (p := ⟨gb575, 1, none⟩) (Kd.V_far (p := ⟨gb575, 0, none⟩) (Kd.V_mono HO_537000.out (fun k_ hk => (⟨hk, hk.2.2.2.2.2.2⟩ : _ ∧ k_ ≠ gb575))) (fun _ hk => hk.2) (.slice Ao53 t567.length co53)) (fun _ hk => hk.2) (.int .i64 t570)) (fun _ hk => hk.2) (.int .i64 t571)) (fun _ hk => hk.2) (.int .i64 t572)) (fun _ hk => hk.2) (.int .i64 t573)) (fun _ hk => ⟨hk.1.1, ⟨hk.1.2.1, ⟨hk.1.2.2.1, ⟨hk.1.2.2.2.1, ⟨hk.1.2.2.2.2.1, ⟨hk.1.2.2.2.2.2.1, hk.1.2.2.2.2.2.2⟩⟩⟩⟩⟩⟩)⟩, ⟨by (with_reducible repeat apply Kd.V_drewN); exact Kd.V_mono (Kd.V_far (p := ⟨gb575, 4, none⟩) (Kd.V_far (p := ⟨gb575, 3, none⟩) (Kd.V_far (p := ⟨gb575, 2, none⟩) (Kd.V_far (p := ⟨gb575, 1, none⟩) (Kd.V_far (p := ⟨gb575, 0, none⟩) (Kd.V_mono HO_548000.out (fun k_ hk => (⟨hk, hk.2.2.2.2.2.2⟩ : _ ∧ k_ ≠ gb575))) (fun _ hk => hk.2) (.slice Ao53 t567.length co53)) (fun _ hk => hk.2) (.int .i64 t570)) (fun _ hk => hk.2) (.int .i64 t571)) (fun _ hk => hk.2) (.int .i64 t572)) (fun _ hk => hk.2) (.int .i64 t573)) (fun _ hk => ⟨hk.1.1, ⟨hk.1.2.1, ⟨hk.1.2.2.1, ⟨hk.1.2.2.2.1, ⟨hk.1.2.2.2.2.1, ⟨hk.1.2.2.2.2.2.1, hk.1.2.2.2.2.2.2⟩⟩⟩⟩⟩⟩)⟩, ⟨by (with_reducible repeat apply Kd.V_drewN); exact Kd.V_mono (Kd.V_far (p := ⟨gb575, 4, none⟩) (Kd.V_far (p := ⟨gb575, 3, none⟩) (Kd.V_far (p := ⟨gb575, 2, none⟩) (Kd.V_far (p := ⟨gb575, 1, none⟩) (Kd.V_far (p := ⟨gb575, 0, none⟩) (Kd.V_mono HO569.out (fun k_ hk => (⟨hk, hk.2.2.2.2.2.2⟩ : _ ∧ k_ ≠ gb575))) (fun _ hk => hk.2) (.slice Ao53 t567.length co53)) (fun _ hk => hk.2) (.int .i64 t570)) (fun _ hk => hk.2) (.int .i64 t571)) (fun _ hk => hk.2) (.int .i64 t572)) (fun _ hk => hk.2) (.int .i64 t573)) (fun _ hk => ⟨hk.1.1, ⟨hk.1.2.1, ⟨hk.1.2.2.1, ⟨hk.1.2.2.2.1, ⟨hk.1.2.2.2.2.1, ⟨hk.1.2.2.2.2.2.1, hk.1.2.2.2.2.2.2⟩⟩⟩⟩⟩⟩)⟩, ⟨by (with_reducible repeat refine blk_drewN ?_ _); refine blk_far ?_ NB536_575.out _; (with_reducible repeat refine blk_drewN ?_ _); refine blk_far ?_ NB536_575.out _; (with_reducible repeat refine blk_drewN ?_ _); refine blk_far ?_ NB536_575.out _; (with_reducible repeat refine blk_drewN ?_ _); refine blk_far ?_ NB536_575.out _; (with_reducible repeat refine blk_drewN ?_ _); refine blk_far ?_ NB536_575.out _; (with_reducible repeat refine blk_drewN ?_ _); exact BK536.out⟩, ⟨by (with_reducible repeat refine blk_drewN ?_ _); refine blk_far ?_ NB537_575.out _; (with_reducible repeat refine blk_drewN ?_ _); refine blk_far ?_ NB537_575.out _; (with_reducible repeat refine blk_drewN ?_ _); refine blk_far ?_ NB537_575.out _; (with_reducible repeat refine blk_drewN ?_ _); refine blk_far ?_ NB537_575.out _; (with_reducible repeat refine blk_drewN ?_ _); refine blk_far ?_ NB537_575.out _; (with_reducible repeat refine blk_drewN ?_ _); exact BK537.out⟩, ⟨by (with_reducible repeat refine blk_drewN ?_ _); refine blk_far ?_ NB538_575.out _; (with_reducible repeat refine blk_drewN ?_ _); refine blk_far ?_ NB538_575.out _; (with_reducible repeat refine blk_drewN ?_ _); refine blk_far ?_ NB538_575.out _; (with_reducible repeat refine blk_drewN ?_ _); refine blk_far ?_ NB538_575.out _; (with_reducible repeat refine blk_drewN ?_ _); refine blk_far ?_ NB538_575.out _; (with_reducible repeat refine blk_drewN ?_ _); exact BK538.out⟩, ⟨by (with_reducible repeat refine blk_drewN ?_ _); refine blk_far ?_ NB547_575.out _; (with_reducible repeat refine blk_drewN ?_ _); refine blk_far ?_ NB547_575.out _; (with_reducible repeat refine blk_drewN ?_ _); refine blk_far ?_ NB547_575.out _; (with_reducible repeat refine blk_drewN ?_ _); refine blk_far ?_ NB547_575.out _; (with_reducible repeat refine blk_drewN ?_ _); refine blk_far ?_ NB547_575.out _; (with_reducible repeat refine blk_drewN ?_ _); exact BK547.out⟩, ⟨by (with_reducible repeat refine blk_drewN ?_ _); refine blk_put (cs := #[.slice Ao53 t567.length co53, .int .i64 t570, .int .i64 t571, .int .i64 t572, .int .i64 0]) ?_ 4 _ rfl; (with_reducible repeat refine blk_drewN ?_ _); refine blk_put (cs := #[.slice Ao53 t567.length co53, .int .i64 t570, .int .i64 t571, .int .i64 0, .int .i64 0]) ?_ 3 _ rfl; (with_reducible repeat refine blk_drewN ?_ _); refine blk_put (cs := #[.slice Ao53 t567.length co53, .int .i64 t570, .int .i64 0, .int .i64 0, .int .i64 0]) ?_ 2 _ rfl; (with_reducible repeat refine blk_drewN ?_ _); refine blk_put (cs := #[.slice Ao53 t567.length co53, .int .i64 0, .int .i64 0, .int .i64 0, .int .i64 0]) ?_ 1 _ rfl; (with_reducible repeat refine blk_drewN ?_ _); refine blk_put (cs := #[.slice none 0 0, .int .i64 0, .int .i64 0, .int .i64 0, .int .i64 0]) ?_ 0 _ rfl; (with_reducible repeat refine blk_drewN ?_ _); exact BK575.out⟩, ⟨by repeat (first | (with_reducible first | exact HB.out | apply pw_below_drewN | refine below_set ?_ GE536.out | refine below_set ?_ GE537.out | refine below_set ?_ GE538.out | refine below_set ?_ GE547.out | refine below_set ?_ GE575.out) | exact HB.out)⟩⟩
         case rest =>
          clear HC47
          try clear p2
          try clear c4
          try clear c5
          try clear p5
          try clear q5
          try clear hx5
          try clear c6
          try clear c44
          try clear c44b0
          try clear c45
          try clear c45b0
          try clear p56
          try clear q56
          try clear hx56
          try clear c59
          try clear c60
          try clear c60b0
          try clear c60b1
          try clear hcz33_2
          try clear hcz33_3
          try clear hcz33_4
          try clear hcz35_0
          try clear hcz35_1
          try clear hcz35_2
          try clear hcz35_3
          try clear hcz35_4
          try clear hcz38_0
          try clear hcz38_1
          try clear hcz38_2
          try clear hcz38_3
          try clear hcz38_4
          try clear hcz9_0
          try clear hcz9_1
          try clear hcz9_2
          try clear hcz9_3
          try clear hcz9_4
          try clear hfz16_0
          try clear hfz16_1
          try clear hfz16_2
          try clear hfz16_3
          try clear hfz16_4
          try clear hfz18_0
          try clear hfz18_1
          try clear hfz18_2
          try clear hfz18_3
          try clear hfz18_4
          try clear hfz19_0
          try clear hfz19_1
          try clear hfz26_0
          try clear hfz26_1
          try clear hfz26_2
          try clear hfz26_3
          try clear hfz26_4
          try clear hfz33_0
          try clear hfz33_1
          try clear hfz33_2
          try clear hfz33_3
          try clear hfz33_4
          try clear hfz35_0
          try clear hfz35_1
          try clear hfz35_2
          try clear hfz35_3
          try clear hfz35_4
          try clear hfz38_0
          try clear hfz38_1
          try clear hfz38_2
          try clear hfz38_3
          try clear hfz38_4
          try clear hfz9_0
          try clear hfz9_1
          try clear hfz9_2
          try clear hfz9_3
          try clear hfz9_4
          try clear hx566_0
          try clear p2
          try clear p566
          try clear q566
          obtain ⟨kq, x50_46, rfl, HA, HJ46, HO_7, HO_537000, HO_548000, HO_576000, BK536, BK537, BK538, BK547, BK575, HB⟩ := hcut
          cases kq with
          | zero => exact absurd HA.out (by simp [regimenref14_Read.j2])
          | succ kj46 =>
           have H := HA.out
           clear HA
           simp only [regimenref14_Read.j2] at H
           by_cases c61 : x50_46 = true
           ·subst c61
            have H1 : ((regimenref13_Fail.f t548 t551 t552 t553 t554 3).bind fun bt576 => (some (bt576.1, bt576.2.1, bt576.2.2.1, bt576.2.2.2.1, bt576.2.2.2.2, 0, 0))) = some (r1, r2, r3, r4, r5, r6, r7) := by rw [if_pos rfl] at H; exact H
            clear H
            have H := H1
            clear H1
            replace H := Option.bind_eq_some_iff.mp H
            obtain ⟨⟨t576, t579, t580, t581, t582⟩, A620, H⟩ := H
            replace H : (some (t576, t579, t580, t581, t582, 0, 0)) = some (r1, r2, r3, r4, r5, r6, r7) := H
            have A62 := Aside0.mk A620
            clear A620
            simp only [Option.some.injEq, Prod.mk.injEq] at H
            obtain ⟨rfl, rfl, rfl, rfl, rfl, rfl, rfl⟩ := H
            have hnb63 := NB547_536.out
            have hnc63 := NB536_547.out
            have hnb64 := NB547_537.out
            have hnc64 := NB537_547.out
            have hnb65 := NB547_538.out
            have hnc65 := NB538_547.out
            have hnb66 := NB547_575.out
            have hnc66 := NB575_547.out
            have hcz67_0 : wc.cell? ⟨gb547, 0, none⟩ = some (.slice Ao37 t548.length co37) := (blk_cell BK547.out 0).trans rfl
            have hcz67_1 : wc.cell? ⟨gb547, 1, none⟩ = some (.int .i64 t551) := (blk_cell BK547.out 1).trans rfl
            have hcz67_2 : wc.cell? ⟨gb547, 2, none⟩ = some (.int .i64 t552) := (blk_cell BK547.out 2).trans rfl
            have hcz67_3 : wc.cell? ⟨gb547, 3, none⟩ = some (.int .i64 t553) := (blk_cell BK547.out 3).trans rfl
            have hcz67_4 : wc.cell? ⟨gb547, 4, none⟩ = some (.int .i64 t554) := (blk_cell BK547.out 4).trans rfl
            have hfz67_0 := blk_frozen BK547.out 0
            have hfz67_1 := blk_frozen BK547.out 1
            have hfz67_2 := blk_frozen BK547.out 2
            have hfz67_3 := blk_frozen BK547.out 3
            have hfz67_4 := blk_frozen BK547.out 4
            go_wp2_with (first | ((with_reducible refine gate_callee (f := 70) rfl ?_); refine goesL_ (some 52) rfl rfl Try.func70 (by kernel_rfl) rfl #[.agg #[.slice Ao37 t548.length co37, .int .i64 t551, .int .i64 t552, .int .i64 t553, .int .i64 t554], .int .i64 3] rfl (by (try simp only [List.map_toArray, List.map_cons, List.map_nil]); first | done | rfl | (simp only [List.length_drop, List.length_take]; rfl)) ?_; (with_reducible refine (regimenref13_Fail.calls (fun k_ => ((P0_0_ k_ ∨ w.heap.size ≤ k_) ∧ (some k_ ≠ (.slice (some ad566) y556.length co49 : Value).ownBlock ∧ (k_ ≠ gb536 ∧ (k_ ≠ gb537 ∧ (k_ ≠ gb538 ∧ (k_ ≠ gb547 ∧ k_ ≠ gb575))))))) _ _ t548 t551 t552 t553 t554 3 t576 t579 t580 t581 t582 _ ?side1 A62.out).mono ?_); (case side1 => exact HO_548000.out); rintro e w68 ⟨v577, rfl, ho0, hb⟩; refine ⟨_, rfl, ?_⟩; have n0_ := Aside0.mk (Kd.R_below (by (with_reducible repeat apply Kd.R_drewN); exact HO_7.out) hb); have n1_ := Aside0.mk (Kd.V_below (by (with_reducible repeat apply Kd.V_drewN); exact HO_537000.out) hb); have n2_ := Aside0.mk (Kd.V_below (by (with_reducible repeat apply Kd.V_drewN); exact HO_548000.out) hb); have n3_ := Aside0.mk (Kd.V_below (by (with_reducible repeat apply Kd.V_drewN); exact HO_576000.out) hb); have n4_ := Aside0.mk (Kd.V_lower (Kd.V_mono (ok' := fun k_ => (P0_0_ k_ ∨ w.heap.size ≤ k_) ∧ some k_ ≠ (.slice (some ad566) y556.length co49 : Value).ownBlock ∧ k_ ≠ gb536 ∧ k_ ≠ gb537 ∧ k_ ≠ gb538 ∧ k_ ≠ gb547 ∧ k_ ≠ gb575) ho0 (fun k_ hk_ => ⟨Or.elim hk_ (fun hs_ => hs_.1) (fun hn_ => (.inr (Nat.le_trans (below_size (by repeat (first | (with_reducible first | exact HB.out | apply pw_below_drewN | refine below_set ?_ GE536.out | refine below_set ?_ GE537.out | refine below_set ?_ GE538.out | refine below_set ?_ GE547.out | refine below_set ?_ GE575.out) | exact HB.out))) hn_))), Or.elim hk_ (fun hs_ => hs_.2.1) (fun hn_ => (Kd.fresh' (Kd.R_lt (by (with_reducible repeat apply Kd.R_drewN); exact HO_7.out)) k_ hn_)), Or.elim hk_ (fun hs_ => hs_.2.2.1) (fun hn_ => (Kd.freshB (g := gb536) (o := .cells #[.slice A0_0 l0_0.length c0_0, .int .i64 a0_1, .int .i64 a0_2, .int .i64 a0_3, .int .i64 a0_4] 68 (0, 0)) (by (with_reducible repeat refine blk_drewN ?_ _); exact BK536.out) k_ hn_)), Or.elim hk_ (fun hs_ => hs_.2.2.2.1) (fun hn_ => (Kd.freshB (g := gb537) (o := .cells #[.slice none 0 0, .int .i64 x538001_1, .int .i64 x538002_1, .int .i64 x538003_1, .int .i64 x538004_1] 68 (0, 0)) (by (with_reducible repeat refine blk_drewN ?_ _); exact BK537.out) k_ hn_)), Or.elim hk_ (fun hs_ => hs_.2.2.2.2.1) (fun hn_ => (Kd.freshB (g := gb538) (o := .cells #[.int .i64 x539000_1, .int .i64 x539001_1] 60 (0, 0)) (by (with_reducible repeat refine blk_drewN ?_ _); exact BK538.out) k_ hn_)), Or.elim hk_ (fun hs_ => hs_.2.2.2.2.2.1) (fun hn_ => (Kd.freshB (g := gb547) (o := .cells #[.slice Ao37 t548.length co37, .int .i64 t551, .int .i64 t552, .int .i64 t553, .int .i64 t554] 68 (0, 0)) (by (with_reducible repeat refine blk_drewN ?_ _); exact BK547.out) k_ hn_)), Or.elim hk_ (fun hs_ => hs_.2.2.2.2.2.2) (fun hn_ => (Kd.freshB (g := gb575) (o := .cells #[.slice Ao53 t567.length co53, .int .i64 t570, .int .i64 t571, .int .i64 t572, .int .i64 t573] 68 (0, 0)) (by (with_reducible repeat refine blk_drewN ?_ _); exact BK575.out) k_ hn_))⟩)) (below_size (by repeat (first | (with_reducible first | exact HB.out | apply pw_below_drewN | refine below_set ?_ GE536.out | refine below_set ?_ GE537.out | refine below_set ?_ GE538.out | refine below_set ?_ GE547.out | refine below_set ?_ GE575.out) | exact HB.out)))); have n5_ := Aside0.mk (blk_below (g := gb536) (by exact BK536.out) hb); have n6_ := Aside0.mk (blk_below (g := gb537) (by exact BK537.out) hb); have n7_ := Aside0.mk (blk_below (g := gb538) (by exact BK538.out) hb); have n8_ := Aside0.mk (blk_below (g := gb547) (by exact BK547.out) hb); have n9_ := Aside0.mk (blk_below (g := gb575) (by exact BK575.out) hb); have n10_ := Aside0.mk (below_step (by repeat (first | (with_reducible first | exact HB.out | apply pw_below_drewN | refine below_set ?_ GE536.out | refine below_set ?_ GE537.out | refine below_set ?_ GE538.out | refine below_set ?_ GE547.out | refine below_set ?_ GE575.out) | exact HB.out)) hb); clear HO_7 HO_537000 HO_548000 HO_576000 BK536 BK537 BK538 BK547 BK575 HB; have HO_7 := n0_; have HO_537000 := n1_; have HO_548000 := n2_; have HO_576000 := n3_; have HO578 := n4_; have BK536 := n5_; have BK537 := n6_; have BK538 := n7_; have BK547 := n8_; have BK575 := n9_; have HB := n10_; clear n0_ n1_ n2_ n3_ n4_ n5_ n6_ n7_ n8_ n9_ n10_; (try clear hb); (try clear ho0); obtain ⟨Ao69, co69, eo69⟩ := Kd.V_slice HO578.out; subst eo69; have hnb70 := NB537_536.out; have hnc70 := NB536_537.out; have hnb71 := NB537_538.out; have hnc71 := NB538_537.out; have hnb72 := NB537_575.out; have hnc72 := NB575_537.out; have hcz73_0 : w68.cell? ⟨gb537, 0, none⟩ = some (.slice none 0 0) := (blk_cell BK537.out 0).trans rfl; have hcz73_1 : w68.cell? ⟨gb537, 1, none⟩ = some (.int .i64 x538001_1) := (blk_cell BK537.out 1).trans rfl; have hcz73_2 : w68.cell? ⟨gb537, 2, none⟩ = some (.int .i64 x538002_1) := (blk_cell BK537.out 2).trans rfl; have hcz73_3 : w68.cell? ⟨gb537, 3, none⟩ = some (.int .i64 x538003_1) := (blk_cell BK537.out 3).trans rfl; have hcz73_4 : w68.cell? ⟨gb537, 4, none⟩ = some (.int .i64 x538004_1) := (blk_cell BK537.out 4).trans rfl; have hfz73_0 := blk_frozen BK537.out 0; have hfz73_1 := blk_frozen BK537.out 1; have hfz73_2 := blk_frozen BK537.out 2; have hfz73_3 := blk_frozen BK537.out 3; have hfz73_4 := blk_frozen BK537.out 4; have hnb74 := NB538_536.out; have hnc74 := NB536_538.out; have hnb75 := NB538_575.out; have hnc75 := NB575_538.out; have hcz76_0 : w68.cell? ⟨gb538, 0, none⟩ = some (.int .i64 x539000_1) := (blk_cell BK538.out 0).trans rfl; have hcz76_1 : w68.cell? ⟨gb538, 1, none⟩ = some (.int .i64 x539001_1) := (blk_cell BK538.out 1).trans rfl; have hfz76_0 := blk_frozen BK538.out 0; have hfz76_1 := blk_frozen BK538.out 1))
            refine bodyPost_ret (results_cc rfl _ _ gb537 gb538 68 60 #[.slice Ao69 t576.length co69, .int .i64 t579, .int .i64 t580, .int .i64 t581, .int .i64 t582] #[.int .i64 0, .int .i64 0] (0, 0) (0, 0) _ _ rfl (by (with_reducible repeat refine blk_drewN ?_ _); refine blk_far ?_ NB537_538.out _; (with_reducible repeat refine blk_drewN ?_ _); refine blk_far ?_ NB537_538.out _; (with_reducible repeat refine blk_drewN ?_ _); refine blk_put (cs := #[.slice Ao69 t576.length co69, .int .i64 t579, .int .i64 t580, .int .i64 t581, .int .i64 x538004_1]) ?_ 4 _ rfl; (with_reducible repeat refine blk_drewN ?_ _); refine blk_put (cs := #[.slice Ao69 t576.length co69, .int .i64 t579, .int .i64 t580, .int .i64 x538003_1, .int .i64 x538004_1]) ?_ 3 _ rfl; (with_reducible repeat refine blk_drewN ?_ _); refine blk_put (cs := #[.slice Ao69 t576.length co69, .int .i64 t579, .int .i64 x538002_1, .int .i64 x538003_1, .int .i64 x538004_1]) ?_ 2 _ rfl; (with_reducible repeat refine blk_drewN ?_ _); refine blk_put (cs := #[.slice Ao69 t576.length co69, .int .i64 x538001_1, .int .i64 x538002_1, .int .i64 x538003_1, .int .i64 x538004_1]) ?_ 1 _ rfl; (with_reducible repeat refine blk_drewN ?_ _); refine blk_put (cs := #[.slice none 0 0, .int .i64 x538001_1, .int .i64 x538002_1, .int .i64 x538003_1, .int .i64 x538004_1]) ?_ 0 _ rfl; (with_reducible repeat refine blk_drewN ?_ _); exact BK537.out) Try.underlying68 rfl (by kernel_rfl) rfl (by (with_reducible repeat refine blk_drewN ?_ _); refine blk_put (cs := #[.int .i64 0, .int .i64 x539001_1]) ?_ 1 _ rfl; (with_reducible repeat refine blk_drewN ?_ _); refine blk_put (cs := #[.int .i64 x539000_1, .int .i64 x539001_1]) ?_ 0 _ rfl; (with_reducible repeat refine blk_drewN ?_ _); refine blk_far ?_ NB538_537.out _; (with_reducible repeat refine blk_drewN ?_ _); refine blk_far ?_ NB538_537.out _; (with_reducible repeat refine blk_drewN ?_ _); refine blk_far ?_ NB538_537.out _; (with_reducible repeat refine blk_drewN ?_ _); refine blk_far ?_ NB538_537.out _; (with_reducible repeat refine blk_drewN ?_ _); refine blk_far ?_ NB538_537.out _; (with_reducible repeat refine blk_drewN ?_ _); exact BK538.out) Try.underlying60 rfl (by kernel_rfl)) rfl ?_
            exact ⟨_, by first | rfl | (simp [*] <;> rfl), by (with_reducible repeat apply Kd.V_drewN); exact Kd.V_mono (Kd.V_far (p := ⟨gb538, 1, none⟩) (Kd.V_far (p := ⟨gb538, 0, none⟩) (Kd.V_far (p := ⟨gb537, 4, none⟩) (Kd.V_far (p := ⟨gb537, 3, none⟩) (Kd.V_far (p := ⟨gb537, 2, none⟩) (Kd.V_far (p := ⟨gb537, 1, none⟩) (Kd.V_far (p := ⟨gb537, 0, none⟩) (Kd.V_mono (Kd.V_mono HO578.out (fun k_ hk => (⟨hk, hk.2.2.2.1⟩ : _ ∧ k_ ≠ gb537))) (fun k_ hk => (⟨hk, hk.1.2.2.2.2.1⟩ : _ ∧ k_ ≠ gb538))) (fun _ hk => hk.1.2) (.slice Ao69 t576.length co69)) (fun _ hk => hk.1.2) (.int .i64 t579)) (fun _ hk => hk.1.2) (.int .i64 t580)) (fun _ hk => hk.1.2) (.int .i64 t581)) (fun _ hk => hk.1.2) (.int .i64 t582)) (fun _ hk => hk.2) (.int .i64 0)) (fun _ hk => hk.2) (.int .i64 0)) (fun _ hk => hk.1.1.1), by repeat (first | (with_reducible first | exact HB.out | apply pw_below_drewN | refine below_set ?_ GE536.out | refine below_set ?_ GE537.out | refine below_set ?_ GE538.out | refine below_set ?_ GE547.out | refine below_set ?_ GE575.out) | exact HB.out)⟩
           ·replace c61 := Bool.eq_false_iff.mpr c61
            subst c61
            have H1 : (if t574 = true then (some (t567, t570, t571, t572, t573, x8_1, t555)) else (regimenref14_Read.l0 kj46 t555 y556 (wrap64 (x8_1 + 1)) t548 t551 t552 t553 t554)) = some (r1, r2, r3, r4, r5, r6, r7) := by rw [if_neg (show ¬ (false = true) by decide)] at H; exact H
            clear H
            have H := H1
            clear H1
            by_cases c77 : t574 = true
            ·subst c77
             have H1 : (some (t567, t570, t571, t572, t573, x8_1, t555)) = some (r1, r2, r3, r4, r5, r6, r7) := by rw [if_pos rfl] at H; exact H
             clear H
             have H := H1
             clear H1
             simp only [Option.some.injEq, Prod.mk.injEq] at H
             obtain ⟨rfl, rfl, rfl, rfl, rfl, rfl, rfl⟩ := H
             have hnb78 := NB575_536.out
             have hnc78 := NB536_575.out
             have hnb79 := NB575_537.out
             have hnc79 := NB537_575.out
             have hnb80 := NB575_538.out
             have hnc80 := NB538_575.out
             have hnb81 := NB575_547.out
             have hnc81 := NB547_575.out
             have hcz82_0 : wc.cell? ⟨gb575, 0, none⟩ = some (.slice Ao53 t567.length co53) := (blk_cell BK575.out 0).trans rfl
             have hcz82_1 : wc.cell? ⟨gb575, 1, none⟩ = some (.int .i64 t570) := (blk_cell BK575.out 1).trans rfl
             have hcz82_2 : wc.cell? ⟨gb575, 2, none⟩ = some (.int .i64 t571) := (blk_cell BK575.out 2).trans rfl
             have hcz82_3 : wc.cell? ⟨gb575, 3, none⟩ = some (.int .i64 t572) := (blk_cell BK575.out 3).trans rfl
             have hcz82_4 : wc.cell? ⟨gb575, 4, none⟩ = some (.int .i64 t573) := (blk_cell BK575.out 4).trans rfl
             have hfz82_0 := blk_frozen BK575.out 0
             have hfz82_1 := blk_frozen BK575.out 1
             have hfz82_2 := blk_frozen BK575.out 2
             have hfz82_3 := blk_frozen BK575.out 3
             have hfz82_4 := blk_frozen BK575.out 4
             have hnb83 := NB537_536.out
             have hnc83 := NB536_537.out
             have hnb84 := NB537_538.out
             have hnc84 := NB538_537.out
             have hnb85 := NB537_547.out
             have hnc85 := NB547_537.out
             have hcz86_0 : wc.cell? ⟨gb537, 0, none⟩ = some (.slice none 0 0) := (blk_cell BK537.out 0).trans rfl
             have hcz86_1 : wc.cell? ⟨gb537, 1, none⟩ = some (.int .i64 x538001_1) := (blk_cell BK537.out 1).trans rfl
             have hcz86_2 : wc.cell? ⟨gb537, 2, none⟩ = some (.int .i64 x538002_1) := (blk_cell BK537.out 2).trans rfl
             have hcz86_3 : wc.cell? ⟨gb537, 3, none⟩ = some (.int .i64 x538003_1) := (blk_cell BK537.out 3).trans rfl
             have hcz86_4 : wc.cell? ⟨gb537, 4, none⟩ = some (.int .i64 x538004_1) := (blk_cell BK537.out 4).trans rfl
             have hfz86_0 := blk_frozen BK537.out 0
             have hfz86_1 := blk_frozen BK537.out 1
             have hfz86_2 := blk_frozen BK537.out 2
             have hfz86_3 := blk_frozen BK537.out 3
             have hfz86_4 := blk_frozen BK537.out 4
             have hnb87 := NB538_536.out
             have hnc87 := NB536_538.out
             have hnb88 := NB538_547.out
             have hnc88 := NB547_538.out
             have hcz89_0 : wc.cell? ⟨gb538, 0, none⟩ = some (.int .i64 x539000_1) := (blk_cell BK538.out 0).trans rfl
             have hcz89_1 : wc.cell? ⟨gb538, 1, none⟩ = some (.int .i64 x539001_1) := (blk_cell BK538.out 1).trans rfl
             have hfz89_0 := blk_frozen BK538.out 0
             have hfz89_1 := blk_frozen BK538.out 1
             go_wp2
             refine bodyPost_ret (results_cc rfl _ _ gb537 gb538 68 60 #[.slice Ao53 t567.length co53, .int .i64 t570, .int .i64 t571, .int .i64 t572, .int .i64 t573] #[.int .i64 x8_1, .int .i64 t555] (0, 0) (0, 0) _ _ rfl (by (with_reducible repeat refine blk_drewN ?_ _); refine blk_far ?_ NB537_538.out _; (with_reducible repeat refine blk_drewN ?_ _); refine blk_far ?_ NB537_538.out _; (with_reducible repeat refine blk_drewN ?_ _); refine blk_put (cs := #[.slice Ao53 t567.length co53, .int .i64 t570, .int .i64 t571, .int .i64 t572, .int .i64 x538004_1]) ?_ 4 _ rfl; (with_reducible repeat refine blk_drewN ?_ _); refine blk_put (cs := #[.slice Ao53 t567.length co53, .int .i64 t570, .int .i64 t571, .int .i64 x538003_1, .int .i64 x538004_1]) ?_ 3 _ rfl; (with_reducible repeat refine blk_drewN ?_ _); refine blk_put (cs := #[.slice Ao53 t567.length co53, .int .i64 t570, .int .i64 x538002_1, .int .i64 x538003_1, .int .i64 x538004_1]) ?_ 2 _ rfl; (with_reducible repeat refine blk_drewN ?_ _); refine blk_put (cs := #[.slice Ao53 t567.length co53, .int .i64 x538001_1, .int .i64 x538002_1, .int .i64 x538003_1, .int .i64 x538004_1]) ?_ 1 _ rfl; (with_reducible repeat refine blk_drewN ?_ _); refine blk_put (cs := #[.slice none 0 0, .int .i64 x538001_1, .int .i64 x538002_1, .int .i64 x538003_1, .int .i64 x538004_1]) ?_ 0 _ rfl; (with_reducible repeat refine blk_drewN ?_ _); exact BK537.out) Try.underlying68 rfl (by kernel_rfl) rfl (by (with_reducible repeat refine blk_drewN ?_ _); refine blk_put (cs := #[.int .i64 x8_1, .int .i64 x539001_1]) ?_ 1 _ rfl; (with_reducible repeat refine blk_drewN ?_ _); refine blk_put (cs := #[.int .i64 x539000_1, .int .i64 x539001_1]) ?_ 0 _ rfl; (with_reducible repeat refine blk_drewN ?_ _); refine blk_far ?_ NB538_537.out _; (with_reducible repeat refine blk_drewN ?_ _); refine blk_far ?_ NB538_537.out _; (with_reducible repeat refine blk_drewN ?_ _); refine blk_far ?_ NB538_537.out _; (with_reducible repeat refine blk_drewN ?_ _); refine blk_far ?_ NB538_537.out _; (with_reducible repeat refine blk_drewN ?_ _); refine blk_far ?_ NB538_537.out _; (with_reducible repeat refine blk_drewN ?_ _); exact BK538.out) Try.underlying60 rfl (by kernel_rfl)) rfl ?_
             exact ⟨_, by first | rfl | (simp [*] <;> rfl), by (with_reducible repeat apply Kd.V_drewN); exact Kd.V_mono (Kd.V_far (p := ⟨gb538, 1, none⟩) (Kd.V_far (p := ⟨gb538, 0, none⟩) (Kd.V_far (p := ⟨gb537, 4, none⟩) (Kd.V_far (p := ⟨gb537, 3, none⟩) (Kd.V_far (p := ⟨gb537, 2, none⟩) (Kd.V_far (p := ⟨gb537, 1, none⟩) (Kd.V_far (p := ⟨gb537, 0, none⟩) (Kd.V_mono (Kd.V_mono HO_576000.out (fun k_ hk => (⟨hk, hk.2.2.2.1⟩ : _ ∧ k_ ≠ gb537))) (fun k_ hk => (⟨hk, hk.1.2.2.2.2.1⟩ : _ ∧ k_ ≠ gb538))) (fun _ hk => hk.1.2) (.slice Ao53 t567.length co53)) (fun _ hk => hk.1.2) (.int .i64 t570)) (fun _ hk => hk.1.2) (.int .i64 t571)) (fun _ hk => hk.1.2) (.int .i64 t572)) (fun _ hk => hk.1.2) (.int .i64 t573)) (fun _ hk => hk.2) (.int .i64 x8_1)) (fun _ hk => hk.2) (.int .i64 t555)) (fun _ hk => hk.1.1.1), by repeat (first | (with_reducible first | exact HB.out | apply pw_below_drewN | refine below_set ?_ GE536.out | refine below_set ?_ GE537.out | refine below_set ?_ GE538.out | refine below_set ?_ GE547.out | refine below_set ?_ GE575.out) | exact HB.out)⟩
            ·replace c77 := Bool.eq_false_iff.mpr c77
             subst c77
             have H1 : (regimenref14_Read.l0 kj46 t555 y556 (wrap64 (x8_1 + 1)) t548 t551 t552 t553 t554) = some (r1, r2, r3, r4, r5, r6, r7) := by rw [if_neg (show ¬ (false = true) by decide)] at H; exact H
             clear H
             have H := H1
             clear H1
             have H' := Aside0.mk H
             clear H
             go_wp2
             go_roundg kj46
             case measure => have := HK1.out; have := HJ41.out; have := HJ46.out; omega
             case rel => exact ⟨(wrap64 (x8_1 + 1)), (x538001_1), (x538002_1), (x538003_1), (x538004_1), (x539000_1), (x539001_1), (by first | rfl | (simp; done) | (simp [*]; done)), H', ⟨by have := HK1.out; have := HJ41.out; have := HJ46.out; omega⟩, ⟨by (with_reducible repeat apply Kd.R_drewN); exact HO_7.out⟩, ⟨by (with_reducible repeat apply Kd.V_drewN); exact Kd.V_mono HO_537000.out (fun _ hk => ⟨hk.1, ⟨hk.2.1, ⟨hk.2.2.1, ⟨hk.2.2.2.1, ⟨hk.2.2.2.2.1, hk.2.2.2.2.2.1⟩⟩⟩⟩⟩)⟩, ⟨by (with_reducible repeat apply Kd.V_drewN); exact Kd.V_mono HO_548000.out (fun _ hk => ⟨hk.1, ⟨hk.2.1, ⟨hk.2.2.1, ⟨hk.2.2.2.1, ⟨hk.2.2.2.2.1, hk.2.2.2.2.2.1⟩⟩⟩⟩⟩)⟩, ⟨by (with_reducible repeat refine blk_drewN ?_ _); exact BK536.out⟩, ⟨by (with_reducible repeat refine blk_drewN ?_ _); exact BK537.out⟩, ⟨by (with_reducible repeat refine blk_drewN ?_ _); exact BK538.out⟩, ⟨by (with_reducible repeat refine blk_drewN ?_ _); exact BK547.out⟩, ⟨by repeat (first | (with_reducible first | exact HB.out | apply pw_below_drewN | refine below_set ?_ GE536.out | refine below_set ?_ GE537.out | refine below_set ?_ GE538.out | refine below_set ?_ GE547.out | refine below_set ?_ GE575.out) | exact HB.out)⟩⟩
        ·rw [if_neg c45] at H
         exact absurd H (by simp)
       ·rw [if_neg c44] at H
        exact absurd H (by simp)
    ·rw [if_neg c41] at H
     have c41b0 : decide (x8_1 < 3) = false := decide_eq_false c41
     clear c41
     replace H := Option.bind_eq_some_iff.mp H
     obtain ⟨⟨t559, t562, t563, t564, t565⟩, A900, H⟩ := H
     replace H : (some (t559, t562, t563, t564, t565, 0, 0)) = some (r1, r2, r3, r4, r5, r6, r7) := H
     have A90 := Aside0.mk A900
     clear A900
     simp only [Option.some.injEq, Prod.mk.injEq] at H
     obtain ⟨rfl, rfl, rfl, rfl, rfl, rfl, rfl⟩ := H
     have hnb91 := NB547_536.out
     have hnc91 := NB536_547.out
     have hnb92 := NB547_537.out
     have hnc92 := NB537_547.out
     have hnb93 := NB547_538.out
     have hnc93 := NB538_547.out
     have hcz94_0 : wr.cell? ⟨gb547, 0, none⟩ = some (.slice Ao37 t548.length co37) := (blk_cell BK547.out 0).trans rfl
     have hcz94_1 : wr.cell? ⟨gb547, 1, none⟩ = some (.int .i64 t551) := (blk_cell BK547.out 1).trans rfl
     have hcz94_2 : wr.cell? ⟨gb547, 2, none⟩ = some (.int .i64 t552) := (blk_cell BK547.out 2).trans rfl
     have hcz94_3 : wr.cell? ⟨gb547, 3, none⟩ = some (.int .i64 t553) := (blk_cell BK547.out 3).trans rfl
     have hcz94_4 : wr.cell? ⟨gb547, 4, none⟩ = some (.int .i64 t554) := (blk_cell BK547.out 4).trans rfl
     have hfz94_0 := blk_frozen BK547.out 0
     have hfz94_1 := blk_frozen BK547.out 1
     have hfz94_2 := blk_frozen BK547.out 2
     have hfz94_3 := blk_frozen BK547.out 3
     have hfz94_4 := blk_frozen BK547.out 4
     go_wp2_with (first | ((with_reducible refine gate_callee (f := 70) rfl ?_); refine goesL_ (some 60) rfl rfl Try.func70 (by kernel_rfl) rfl #[.agg #[.slice Ao37 t548.length co37, .int .i64 t551, .int .i64 t552, .int .i64 t553, .int .i64 t554], .int .i64 2] rfl (by (try simp only [List.map_toArray, List.map_cons, List.map_nil]); first | done | rfl | (simp only [List.length_drop, List.length_take]; rfl)) ?_; (with_reducible refine (regimenref13_Fail.calls (fun k_ => ((P0_0_ k_ ∨ w.heap.size ≤ k_) ∧ (some k_ ≠ (v557 : Value).ownBlock ∧ (k_ ≠ gb536 ∧ (k_ ≠ gb537 ∧ (k_ ≠ gb538 ∧ k_ ≠ gb547)))))) _ _ t548 t551 t552 t553 t554 2 t559 t562 t563 t564 t565 _ ?side1 A90.out).mono ?_); (case side1 => exact HO_548000.out); rintro e w95 ⟨v560, rfl, ho0, hb⟩; refine ⟨_, rfl, ?_⟩; have n0_ := Aside0.mk (Kd.R_below (by (with_reducible repeat apply Kd.R_drewN); exact HO_7.out) hb); have n1_ := Aside0.mk (Kd.V_below (by (with_reducible repeat apply Kd.V_drewN); exact HO_537000.out) hb); have n2_ := Aside0.mk (Kd.V_below (by (with_reducible repeat apply Kd.V_drewN); exact HO_548000.out) hb); have n3_ := Aside0.mk (Kd.V_lower (Kd.V_mono (ok' := fun k_ => (P0_0_ k_ ∨ w.heap.size ≤ k_) ∧ some k_ ≠ (v557 : Value).ownBlock ∧ k_ ≠ gb536 ∧ k_ ≠ gb537 ∧ k_ ≠ gb538 ∧ k_ ≠ gb547) ho0 (fun k_ hk_ => ⟨Or.elim hk_ (fun hs_ => hs_.1) (fun hn_ => (.inr (Nat.le_trans (below_size (by repeat (first | (with_reducible first | exact HB.out | apply pw_below_drewN | refine below_set ?_ GE536.out | refine below_set ?_ GE537.out | refine below_set ?_ GE538.out | refine below_set ?_ GE547.out) | exact HB.out))) hn_))), Or.elim hk_ (fun hs_ => hs_.2.1) (fun hn_ => (Kd.fresh' (Kd.R_lt (by (with_reducible repeat apply Kd.R_drewN); exact HO_7.out)) k_ hn_)), Or.elim hk_ (fun hs_ => hs_.2.2.1) (fun hn_ => (Kd.freshB (g := gb536) (o := .cells #[.slice A0_0 l0_0.length c0_0, .int .i64 a0_1, .int .i64 a0_2, .int .i64 a0_3, .int .i64 a0_4] 68 (0, 0)) (by (with_reducible repeat refine blk_drewN ?_ _); exact BK536.out) k_ hn_)), Or.elim hk_ (fun hs_ => hs_.2.2.2.1) (fun hn_ => (Kd.freshB (g := gb537) (o := .cells #[.slice none 0 0, .int .i64 x538001_1, .int .i64 x538002_1, .int .i64 x538003_1, .int .i64 x538004_1] 68 (0, 0)) (by (with_reducible repeat refine blk_drewN ?_ _); exact BK537.out) k_ hn_)), Or.elim hk_ (fun hs_ => hs_.2.2.2.2.1) (fun hn_ => (Kd.freshB (g := gb538) (o := .cells #[.int .i64 x539000_1, .int .i64 x539001_1] 60 (0, 0)) (by (with_reducible repeat refine blk_drewN ?_ _); exact BK538.out) k_ hn_)), Or.elim hk_ (fun hs_ => hs_.2.2.2.2.2) (fun hn_ => (Kd.freshB (g := gb547) (o := .cells #[.slice Ao37 t548.length co37, .int .i64 t551, .int .i64 t552, .int .i64 t553, .int .i64 t554] 68 (0, 0)) (by (with_reducible repeat refine blk_drewN ?_ _); exact BK547.out) k_ hn_))⟩)) (below_size (by repeat (first | (with_reducible first | exact HB.out | apply pw_below_drewN | refine below_set ?_ GE536.out | refine below_set ?_ GE537.out | refine below_set ?_ GE538.out | refine below_set ?_ GE547.out) | exact HB.out)))); have n4_ := Aside0.mk (blk_below (g := gb536) (by exact BK536.out) hb); have n5_ := Aside0.mk (blk_below (g := gb537) (by exact BK537.out) hb); have n6_ := Aside0.mk (blk_below (g := gb538) (by exact BK538.out) hb); have n7_ := Aside0.mk (blk_below (g := gb547) (by exact BK547.out) hb); have n8_ := Aside0.mk (below_step (by repeat (first | (with_reducible first | exact HB.out | apply pw_below_drewN | refine below_set ?_ GE536.out | refine below_set ?_ GE537.out | refine below_set ?_ GE538.out | refine below_set ?_ GE547.out) | exact HB.out)) hb); clear HO_7 HO_537000 HO_548000 BK536 BK537 BK538 BK547 HB; have HO_7 := n0_; have HO_537000 := n1_; have HO_548000 := n2_; have HO561 := n3_; have BK536 := n4_; have BK537 := n5_; have BK538 := n6_; have BK547 := n7_; have HB := n8_; clear n0_ n1_ n2_ n3_ n4_ n5_ n6_ n7_ n8_; (try clear hb); (try clear ho0); obtain ⟨Ao96, co96, eo96⟩ := Kd.V_slice HO561.out; subst eo96; have hnb97 := NB537_536.out; have hnc97 := NB536_537.out; have hnb98 := NB537_538.out; have hnc98 := NB538_537.out; have hcz99_0 : w95.cell? ⟨gb537, 0, none⟩ = some (.slice none 0 0) := (blk_cell BK537.out 0).trans rfl; have hcz99_1 : w95.cell? ⟨gb537, 1, none⟩ = some (.int .i64 x538001_1) := (blk_cell BK537.out 1).trans rfl; have hcz99_2 : w95.cell? ⟨gb537, 2, none⟩ = some (.int .i64 x538002_1) := (blk_cell BK537.out 2).trans rfl; have hcz99_3 : w95.cell? ⟨gb537, 3, none⟩ = some (.int .i64 x538003_1) := (blk_cell BK537.out 3).trans rfl; have hcz99_4 : w95.cell? ⟨gb537, 4, none⟩ = some (.int .i64 x538004_1) := (blk_cell BK537.out 4).trans rfl; have hfz99_0 := blk_frozen BK537.out 0; have hfz99_1 := blk_frozen BK537.out 1; have hfz99_2 := blk_frozen BK537.out 2; have hfz99_3 := blk_frozen BK537.out 3; have hfz99_4 := blk_frozen BK537.out 4; have hnb100 := NB538_536.out; have hnc100 := NB536_538.out; have hcz101_0 : w95.cell? ⟨gb538, 0, none⟩ = some (.int .i64 x539000_1) := (blk_cell BK538.out 0).trans rfl; have hcz101_1 : w95.cell? ⟨gb538, 1, none⟩ = some (.int .i64 x539001_1) := (blk_cell BK538.out 1).trans rfl; have hfz101_0 := blk_frozen BK538.out 0; have hfz101_1 := blk_frozen BK538.out 1))
     refine bodyPost_ret (results_cc rfl _ _ gb537 gb538 68 60 #[.slice Ao96 t559.length co96, .int .i64 t562, .int .i64 t563, .int .i64 t564, .int .i64 t565] #[.int .i64 0, .int .i64 0] (0, 0) (0, 0) _ _ rfl (by (with_reducible repeat refine blk_drewN ?_ _); refine blk_far ?_ NB537_538.out _; (with_reducible repeat refine blk_drewN ?_ _); refine blk_far ?_ NB537_538.out _; (with_reducible repeat refine blk_drewN ?_ _); refine blk_put (cs := #[.slice Ao96 t559.length co96, .int .i64 t562, .int .i64 t563, .int .i64 t564, .int .i64 x538004_1]) ?_ 4 _ rfl; (with_reducible repeat refine blk_drewN ?_ _); refine blk_put (cs := #[.slice Ao96 t559.length co96, .int .i64 t562, .int .i64 t563, .int .i64 x538003_1, .int .i64 x538004_1]) ?_ 3 _ rfl; (with_reducible repeat refine blk_drewN ?_ _); refine blk_put (cs := #[.slice Ao96 t559.length co96, .int .i64 t562, .int .i64 x538002_1, .int .i64 x538003_1, .int .i64 x538004_1]) ?_ 2 _ rfl; (with_reducible repeat refine blk_drewN ?_ _); refine blk_put (cs := #[.slice Ao96 t559.length co96, .int .i64 x538001_1, .int .i64 x538002_1, .int .i64 x538003_1, .int .i64 x538004_1]) ?_ 1 _ rfl; (with_reducible repeat refine blk_drewN ?_ _); refine blk_put (cs := #[.slice none 0 0, .int .i64 x538001_1, .int .i64 x538002_1, .int .i64 x538003_1, .int .i64 x538004_1]) ?_ 0 _ rfl; (with_reducible repeat refine blk_drewN ?_ _); exact BK537.out) Try.underlying68 rfl (by kernel_rfl) rfl (by (with_reducible repeat refine blk_drewN ?_ _); refine blk_put (cs := #[.int .i64 0, .int .i64 x539001_1]) ?_ 1 _ rfl; (with_reducible repeat refine blk_drewN ?_ _); refine blk_put (cs := #[.int .i64 x539000_1, .int .i64 x539001_1]) ?_ 0 _ rfl; (with_reducible repeat refine blk_drewN ?_ _); refine blk_far ?_ NB538_537.out _; (with_reducible repeat refine blk_drewN ?_ _); refine blk_far ?_ NB538_537.out _; (with_reducible repeat refine blk_drewN ?_ _); refine blk_far ?_ NB538_537.out _; (with_reducible repeat refine blk_drewN ?_ _); refine blk_far ?_ NB538_537.out _; (with_reducible repeat refine blk_drewN ?_ _); refine blk_far ?_ NB538_537.out _; (with_reducible repeat refine blk_drewN ?_ _); exact BK538.out) Try.underlying60 rfl (by kernel_rfl)) rfl ?_
     exact ⟨_, by first | rfl | (simp [*] <;> rfl), by (with_reducible repeat apply Kd.V_drewN); exact Kd.V_mono (Kd.V_far (p := ⟨gb538, 1, none⟩) (Kd.V_far (p := ⟨gb538, 0, none⟩) (Kd.V_far (p := ⟨gb537, 4, none⟩) (Kd.V_far (p := ⟨gb537, 3, none⟩) (Kd.V_far (p := ⟨gb537, 2, none⟩) (Kd.V_far (p := ⟨gb537, 1, none⟩) (Kd.V_far (p := ⟨gb537, 0, none⟩) (Kd.V_mono (Kd.V_mono HO561.out (fun k_ hk => (⟨hk, hk.2.2.2.1⟩ : _ ∧ k_ ≠ gb537))) (fun k_ hk => (⟨hk, hk.1.2.2.2.2.1⟩ : _ ∧ k_ ≠ gb538))) (fun _ hk => hk.1.2) (.slice Ao96 t559.length co96)) (fun _ hk => hk.1.2) (.int .i64 t562)) (fun _ hk => hk.1.2) (.int .i64 t563)) (fun _ hk => hk.1.2) (.int .i64 t564)) (fun _ hk => hk.1.2) (.int .i64 t565)) (fun _ hk => hk.2) (.int .i64 0)) (fun _ hk => hk.2) (.int .i64 0)) (fun _ hk => hk.1.1.1), by repeat (first | (with_reducible first | exact HB.out | apply pw_below_drewN | refine below_set ?_ GE536.out | refine below_set ?_ GE537.out | refine below_set ?_ GE538.out | refine below_set ?_ GE547.out) | exact HB.out)⟩

end Go.Proofs.Ytnmmhfpekeeedaa.PR
