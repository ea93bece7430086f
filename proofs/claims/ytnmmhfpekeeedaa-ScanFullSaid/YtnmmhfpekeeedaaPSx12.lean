/- Go functions of this seat as plain Lean functions, each with a proof that its call comes to just what that function says, wherever that function says anything: written by a program of this session. -/
import Derived.Test.YtnmmhfpekeeedaaPSx0
import Derived.Test.YtnmmhfpekeeedaaPSx1
import Derived.Test.YtnmmhfpekeeedaaPSx2
import Derived.Test.YtnmmhfpekeeedaaPSx6
namespace Go.Proofs.Ytnmmhfpekeeedaa.PS
open Go.RowKit Go.Proofs.YtnmmhfpekeeedaaW.PrintWords Go.Proofs.YtnmmhfpekeeedaaW.PrintLast Go.Proofs.YtnmmhfpekeeedaaW.PrintMore
attribute [local go_sem] max2_int min2_int max_two min_two max_three min_three max_four min_four   -- for this text's walks alone
set_option linter.unusedVariables false
set_option linter.unusedSimpArgs false

attribute [local go_sem] isSome_setCell
attribute [local go_sem high] eqA25 eqA34
/-! ### regimenlaw12_ScanFull: function 4 -/
def regimenlaw12_ScanFull.l0 : Nat → Int → List Int → Int → Option (Bool)
  | 0, _, _, _ => none
  | k + 1, x0, x3, x4 => if x4 < (x3.length : Int) then (if 0 ≤ x4 then (regimenlaw12_ScanFull.l0 k x0 (x3.set (x4 : Int).toNat 59) (wrap64 (x4 + 1))) else (none)) else ((scan_Tokens.f k (strOfNums x3)).bind fun bt296 => (if x0 > 4000 then (if (bt296.1.length : Int) = 0 then (if (bt296.2.1 == 1 && (bt296.2.2.1 == 4001)) = true then (if bt296.2.2.2 = 9 then ((regimenlaw12_awake.f k).bind fun t303 => (some t303)) else (none)) else (none)) else (none)) else (if (bt296.1.length : Int) = (wrap64 ((wrap64 (x0)) + 1)) then (if (bt296.2.1 == 0 && (bt296.2.2.1 == 0)) = true then (if bt296.2.2.2 = 0 then (if 0 ≤ (wrap64 ((bt296.1.length : Int) - 1)) then (if (wrap64 ((bt296.1.length : Int) - 1)) < (bt296.1.length : Int) then (if (((rd_T34 bt296.1 (wrap64 ((bt296.1.length : Int) - 1))).f0) == 0 && ((((rd_T34 bt296.1 (wrap64 ((bt296.1.length : Int) - 1))).f1).toList) == ([] : List UInt8) && ((((rd_T34 bt296.1 (wrap64 ((bt296.1.length : Int) - 1))).f2.f0) == 1 && (((rd_T34 bt296.1 (wrap64 ((bt296.1.length : Int) - 1))).f2.f1) == (wrap64 ((wrap64 (x0)) + 1))))))) = true then ((regimenlaw12_awake.f k).bind fun t305 => (some t305)) else (none)) else (none)) else (none)) else (none)) else (none)) else (none))))
def regimenlaw12_ScanFull.f (k : Nat) (a0 : Int) : Option (Bool) := if a0 > 4100 then ((regimenlaw12_awake.f k).bind fun t291 => (some t291)) else (if 0 ≤ (wrap64 (a0)) then (if (wrap64 (a0) : Int).toNat ≤ 281474976710656 then (regimenlaw12_ScanFull.l0 k a0 (List.replicate (wrap64 (a0) : Int).toNat 0) 0) else (none)) else (none))
theorem regimenlaw12_ScanFull.mono_l : ∀ k, (∀ y0 y1 y2, LeO (regimenlaw12_ScanFull.l0 k y0 y1 y2) (regimenlaw12_ScanFull.l0 (k + 1) y0 y1 y2))
  | 0 => fun _ _ _ r h => by simp [regimenlaw12_ScanFull.l0] at h
  | k + 1 => by
    have ih0 := regimenlaw12_ScanFull.mono_l k
    · intro y0 y1 y2
      unfold regimenlaw12_ScanFull.l0
      repeat' first
      | (with_reducible exact ih0 _ _ _)
      | (with_reducible exact regimenlaw12_awake.mono _)
      | (with_reducible exact scan_Tokens.mono _ _)
      | (with_reducible exact LeO.refl _)
      | (with_reducible exact LeO.none _)
      | (with_reducible refine LeO.ite ?_ ?_)
      | (with_reducible refine LeO.bind ?_ (fun _ => ?_))
      | exact ih0 _ _ _
      | exact regimenlaw12_awake.mono _
      | exact scan_Tokens.mono _ _
      | exact LeO.none _
      | refine LeO.ite ?_ ?_
      | refine LeO.bind ?_ (fun _ => ?_)
theorem regimenlaw12_ScanFull.mono : ∀ a0 k, LeO (regimenlaw12_ScanFull.f k a0) (regimenlaw12_ScanFull.f (k + 1) a0) := by
  intro a0 k
  have ih0 := regimenlaw12_ScanFull.mono_l k
  unfold regimenlaw12_ScanFull.f
  repeat' first
      | (with_reducible exact ih0 _ _ _)
      | (with_reducible exact regimenlaw12_awake.mono _)
      | (with_reducible exact scan_Tokens.mono _ _)
      | (with_reducible exact LeO.refl _)
      | (with_reducible exact LeO.none _)
      | (with_reducible refine LeO.ite ?_ ?_)
      | (with_reducible refine LeO.bind ?_ (fun _ => ?_))
      | exact ih0 _ _ _
      | exact regimenlaw12_awake.mono _
      | exact scan_Tokens.mono _ _
      | exact LeO.none _
      | refine LeO.ite ?_ ?_
      | refine LeO.bind ?_ (fun _ => ?_)
set_option maxHeartbeats 8000000 in
set_option maxRecDepth 100000 in
theorem regimenlaw12_ScanFull.calls (k : Nat) (a0 : Int) (r : Bool) (w : World) (h : regimenlaw12_ScanFull.f k a0 = some r) :
    Calls Try.prog 4 #[.int .u16 a0] w fun e w' => e = .returned (.bool r) ∧ Below w.heap.size w w' := by
  have hu25 := Try.underlying25
  have hu34 := Try.underlying34
  have HB := Aside0.mk (Below.refl w.heap.size w)
  have H : (if a0 > 4100 then ((regimenlaw12_awake.f k).bind fun t291 => (some t291)) else (if 0 ≤ (wrap64 (a0)) then (if (wrap64 (a0) : Int).toNat ≤ 281474976710656 then (regimenlaw12_ScanFull.l0 k a0 (List.replicate (wrap64 (a0) : Int).toNat 0) 0) else (none)) else (none))) = some r := h
  clear h
  by_cases c2 : a0 > 4100
  · rw [if_pos c2] at H
    have c2b0 : decide (4100 < a0) = true := decide_eq_true c2
    clear c2
    replace H := Option.bind_eq_some_iff.mp H
    obtain ⟨t291, A30, H⟩ := H
    replace H : (some t291) = some r := H
    have A3 := Aside0.mk A30
    clear A30
    obtain rfl := Option.some.inj H
    go_enter Try.func4, Try.ntmps4
    go_wp2_with (first | ((with_reducible refine gate_callee (f := 11) rfl ?_); refine goesL_ (some 10) rfl rfl Try.func11 (by kernel_rfl) rfl #[] rfl (by (try simp only [List.map_toArray, List.map_cons, List.map_nil]); first | done | rfl | (simp only [List.length_drop, List.length_take]; rfl)) ?_; (with_reducible refine (regimenlaw12_awake.calls k  t291 _ A3.out).mono ?_); rintro e w4 ⟨rfl, hb⟩; refine ⟨_, rfl, ?_⟩; have n0_ := Aside0.mk (below_step (by repeat (first | (with_reducible first | exact HB.out | apply below_alloc | apply pw_below_drewN | apply below_drew1) | exact HB.out)) hb); clear HB; have HB := n0_; clear n0_; (try clear hb); (try clear hb2); (try clear hk); (try clear hi)))
    go_ret
    exact ⟨by first | rfl | (simp [errW_none, errW_some] <;> rfl) | (simp [*, errW_none, errW_some] <;> rfl), by repeat (first | (with_reducible first | exact HB.out | apply below_alloc | apply pw_below_drewN | apply below_drew1) | exact HB.out)⟩
  · rw [if_neg c2] at H
    have c2b0 : decide (4100 < a0) = false := decide_eq_false c2
    clear c2
    obtain ⟨ji5, hji5⟩ : ∃ j_ : Int, (wrap64 (a0)) = j_ := ⟨_, rfl⟩
    replace H : (if 0 ≤ (ji5) then (if (ji5 : Int).toNat ≤ 281474976710656 then (regimenlaw12_ScanFull.l0 k a0 (List.replicate (ji5 : Int).toNat 0) 0) else (none)) else (none)) = some r := by first | (rw [hji5] at H; exact H) | (simp only [hji5] at H ⊢; exact H)
    have hji5w : (IntKind.i64.wrap (a0)) = ji5 := (i64_w _).trans hji5
    by_cases c6 : 0 ≤ (ji5)
    · rw [if_pos c6] at H
      have c6b0 := eq_true c6
      have c6b1 : decide (0 ≤ (ji5)) = true := decide_eq_true c6
      clear c6
      by_cases c7 : (ji5 : Int).toNat ≤ 281474976710656
      · rw [if_pos c7] at H
        have c7b0 := eq_true c7
        have c7b1 : decide ((ji5 : Int).toNat ≤ 281474976710656) = true := decide_eq_true c7
        clear c7
        obtain ⟨y292, hy292⟩ : ∃ y_ : List Int, y_ = (List.replicate (ji5 : Int).toNat 0) := ⟨_, rfl⟩
        replace H : (regimenlaw12_ScanFull.l0 k a0 y292 0) = some r := by first | (rw [hy292]; with_reducible exact H) | (have H2_ := (Option.bind_some _ _).symm.trans H; rw [hy292]; with_reducible exact H2_) | (have H2_ := (Option.bind_some _ _).symm.trans H; with_reducible exact H2_) | with_reducible exact H | (rw [hy292]; exact H) | exact H
        have Ny292 := Aside0.mk hy292
        clear hy292
        have H' := Aside0.mk H
        clear H
        go_enter Try.func4, Try.ntmps4
        go_wp2_with (first | ((with_reducible refine gate_dst (N := 13) rfl ?_); (try (refine gate_guard (by rfl) ?_; dsimp only)); refine Kd.R_make (Kd.int .u8) _ 5 rfl (N := 13) rfl 32 _ _ rfl ji5 rfl rfl Try.underlying32 (.int .u8 0) 1 info5 rfl (by decide) (by omega) 0 (ok := fun _ => True) (okp := fun _ => True) rfl (fun _ hk => hk) trivial (of_decide_eq_true (by first | (with_reducible assumption) | assumption)) (Nat.le_trans (Nat.mul_le_mul_right _ (of_decide_eq_true (by first | (with_reducible assumption) | assumption) : ji5.toNat ≤ 281474976710656)) (by omega)) (Below.refl _ _) (Nat.le_refl _) ?_; intro v293 w8 ho9 hb hg_ hnew_; clear hg_ hnew_; (first | rw [← Ny292.out] at ho9 | (simp only [Int.reduceToNat] at ho9; rw [← Ny292.out] at ho9)); have n0_ := Aside0.mk (Kd.R_lower ho9 (below_size (by repeat (first | (with_reducible first | exact HB.out | apply below_alloc | apply pw_below_drewN | apply below_drew1) | exact HB.out)))); have n1_ := Aside0.mk (below_step (by repeat (first | (with_reducible first | exact HB.out | apply below_alloc | apply pw_below_drewN | apply below_drew1) | exact HB.out)) hb); clear HB; have HO294 := n0_; have HB := n1_; clear n0_ n1_; clear hb ho9))
        go_loopg [4] k (fun kq v4 w' => ∃ (x3_1 : List Int) (x4_1 : Int), v4 = .int .i64 x4_1 ∧ Aside0 (regimenlaw12_ScanFull.l0 kq a0 x3_1 x4_1 = some r) ∧ Aside0 (kq ≤ k) ∧ Aside0 (Kd.R (Kd.int .u8) 5 w' w.heap.size (fun _ => True) v293 x3_1) ∧ Aside0 (Below w.heap.size w w'))
        case atStart => exact ⟨(y292), (0), (by first | rfl | (simp; done) | (simp [*]; done)), H', ⟨Nat.le_refl _⟩, ⟨by (with_reducible repeat (first | apply Kd.R_alloc | apply Kd.R_drewN | apply Kd.R_drew)); exact HO294.out⟩, ⟨by repeat (first | (with_reducible first | exact HB.out | apply below_alloc | apply pw_below_drewN | apply below_drew1) | exact HB.out)⟩⟩
        case round =>
          clear H'
          try clear c1
          try clear c2
          try clear c2b0
          try clear p2
          try clear c4
          try clear c6
          try clear c6b0
          try clear c6b1
          try clear p6
          try clear c7
          try clear c7b0
          try clear c7b1
          obtain ⟨x3_1, x4_1, rfl, HA, HK1, HO_3, HB⟩ := hrel
          cases gk with
          | zero => exact absurd HA.out (by simp [regimenlaw12_ScanFull.l0])
          | succ k1 =>
            have H := HA.out
            clear HA
            simp only [regimenlaw12_ScanFull.l0] at H
            by_cases c10 : x4_1 < (x3_1.length : Int)
            · rw [if_pos c10] at H
              have c10b0 : decide (x4_1 < (x3_1.length : Int)) = true := decide_eq_true c10
              clear c10
              by_cases c11 : 0 ≤ x4_1
              · rw [if_pos c11] at H
                have c11b0 : decide (0 ≤ x4_1) = true := decide_eq_true c11
                clear c11
                obtain ⟨y295, hy295⟩ : ∃ y_ : List Int, y_ = (x3_1.set (x4_1 : Int).toNat 59) := ⟨_, rfl⟩
                replace H : (regimenlaw12_ScanFull.l0 k1 a0 y295 (wrap64 (x4_1 + 1))) = some r := by first | (rw [hy295]; with_reducible exact H) | (have H2_ := (Option.bind_some _ _).symm.trans H; rw [hy295]; with_reducible exact H2_) | (have H2_ := (Option.bind_some _ _).symm.trans H; with_reducible exact H2_) | with_reducible exact H | (rw [hy295]; exact H) | exact H
                have Ny295 := Aside0.mk hy295
                clear hy295
                have H' := Aside0.mk H
                clear H
                obtain ⟨Ao13, co13, eo13⟩ := Kd.R_slice HO_3.out
                subst eo13
                have p12 : 0 ≤ (x4_1 : Int) := of_decide_eq_true (by first | (with_reducible assumption) | assumption)
                have q12 : (x4_1 : Int) < ((x3_1.length : Int) : Int) := of_decide_eq_true (by first | (with_reducible assumption) | assumption)
                obtain ⟨go12, co12, eo12, gb12, gl12, cl12, HG12⟩ := Kd.R_form HO_3.out (by omega)
                (first | cases eo12 | (injection eo12 with ea_ en_ ec_; (first | subst ea_ | (injection ea_ with ea_; subst ea_)); subst ec_; clear en_))
                have GB12 := Aside0.mk gb12
                have GG12 := Aside0.mk HG12
                clear gb12 gl12 HG12
                obtain ⟨hx12_0, hf12_0⟩ := Kd.R_celln 0 HO_3.out (x4_1 : Int) p12 q12
                replace p12 := eq_true p12
                replace q12 := eq_true q12
                have HP14 := Kd.R_putg HO_3.out (x4_1 : Int) 59
                go_wp2_with (first | ((with_reducible refine gate_store (t := 5) (p := 22) rfl ?_); refine store_event (t := 5) (p := 22) (v := ?vo_w15) (w1 := (wr.setCell ⟨go12, (x4_1 : Int).toNat, none⟩ (.int .u8 59))) ?hg ?ho ?hn ?hr ?_; (case ho => rfl); (case hg => rfl); (case hn => rfl); (case hr => first | (go_simp; done) | (go_simp; rfl)); intro w15 hw; have hg : wr.grownBy w15 (some go12) := (by rw [hw]; exact HP14.2); have hp_ : Kd.R (Kd.int .u8) 5 w15 w.heap.size (fun _ => True) (.slice (some ⟨go12, 0, none⟩) x3_1.length co13) y295 := (by rw [hw, Ny295.out]; exact HP14.1); clear HP14; have n0_ := Aside0.mk (hp_); have n1_ := Aside0.mk ((by rw [hw]; exact below_set (HB.out) GB12.out : Below w.heap.size w w15)); clear HO_3; clear HB; have HO_3 := n0_; have HB := n1_; clear n0_ n1_; clear hg hw hp_))
                go_roundg k1
                case measure => have := HK1.out; omega
                case rel => exact ⟨(y295), (wrap64 (x4_1 + 1)), (by first | rfl | (simp; done) | (simp [*]; done)), H', ⟨by have := HK1.out; omega⟩, ⟨by (with_reducible repeat (first | apply Kd.R_alloc | apply Kd.R_drewN | apply Kd.R_drew)); exact HO_3.out⟩, ⟨by repeat (first | (with_reducible first | exact HB.out | apply below_alloc | apply pw_below_drewN | apply below_drew1) | exact HB.out)⟩⟩
              · rw [if_neg c11] at H
                exact absurd H (by simp)
            · rw [if_neg c10] at H
              have c10b0 : decide (x4_1 < (x3_1.length : Int)) = false := decide_eq_false c10
              clear c10
              replace H := Option.bind_eq_some_iff.mp H
              obtain ⟨⟨t296, t299, t300, t301⟩, A160, H⟩ := H
              replace H : (if a0 > 4000 then (if (t296.length : Int) = 0 then (if (t299 == 1 && (t300 == 4001)) = true then (if t301 = 9 then ((regimenlaw12_awake.f k1).bind fun t303 => (some t303)) else (none)) else (none)) else (none)) else (if (t296.length : Int) = (wrap64 ((wrap64 (a0)) + 1)) then (if (t299 == 0 && (t300 == 0)) = true then (if t301 = 0 then (if 0 ≤ (wrap64 ((t296.length : Int) - 1)) then (if (wrap64 ((t296.length : Int) - 1)) < (t296.length : Int) then (if (((rd_T34 t296 (wrap64 ((t296.length : Int) - 1))).f0) == 0 && ((((rd_T34 t296 (wrap64 ((t296.length : Int) - 1))).f1).toList) == ([] : List UInt8) && ((((rd_T34 t296 (wrap64 ((t296.length : Int) - 1))).f2.f0) == 1 && (((rd_T34 t296 (wrap64 ((t296.length : Int) - 1))).f2.f1) == (wrap64 ((wrap64 (a0)) + 1))))))) = true then ((regimenlaw12_awake.f k1).bind fun t305 => (some t305)) else (none)) else (none)) else (none)) else (none)) else (none)) else (none))) = some r := H
              have A16 := Aside0.mk A160
              clear A160
              by_cases c17 : a0 > 4000
              · rw [if_pos c17] at H
                have c17b0 : decide (4000 < a0) = true := decide_eq_true c17
                clear c17
                by_cases c18 : (t296.length : Int) = 0
                · rw [if_pos c18] at H
                  have c18b0 : ((t296.length : Int) == 0) = true := beq_iff_eq.mpr c18
                  have c18b1 : ((t296.length : Int) != 0) = false := bne_eq_false_iff_eq.mpr c18
                  clear c18
                  by_cases c19 : (t299 == 1 && (t300 == 4001)) = true
                  · rw [if_pos c19] at H
                    have c19b0 : (t299 == 1 && (t300 == 4001)) = true := c19
                    (try (have c19b1 : decide (t299 = 1 && (t300 == 4001)) = true := by simpa using c19))
                    (try (have c19b2 : (t299 == 1 && (t300 == 4001)) = true := by simpa using c19))
                    clear c19
                    by_cases c20 : t301 = 9
                    · rw [if_pos c20] at H
                      have c20b0 : (t301 == 9) = true := beq_iff_eq.mpr c20
                      have c20b1 : (t301 != 9) = false := bne_eq_false_iff_eq.mpr c20
                      clear c20
                      (try (have c20_c19b0 := c19b0; simp only [c20b0, Bool.true_and, Bool.and_true, Bool.false_or, Bool.or_false, Bool.not_true, Bool.not_false] at c20_c19b0))
                      replace H := Option.bind_eq_some_iff.mp H
                      obtain ⟨t303, A210, H⟩ := H
                      replace H : (some t303) = some r := H
                      have A21 := Aside0.mk A210
                      clear A210
                      obtain rfl := Option.some.inj H
                      obtain ⟨Ao22, co22, eo22⟩ := Kd.R_slice HO_3.out
                      subst eo22
                      have hcv23 := own_string (P := Try.prog) Try.underlying32 Try.underlying5 Try.underlying9 (Kd.own_of_R HO_3.out)
                      go_wp2_with (first | ((with_reducible refine gate_callee (f := 12) rfl ?_); refine goesL_ (some 26) rfl rfl Try.func12 (by kernel_rfl) rfl #[.string (strOfNums x3_1)] rfl (by (try simp only [List.map_toArray, List.map_cons, List.map_nil]); first | done | rfl | (simp only [List.length_drop, List.length_take]; rfl)) ?_; (with_reducible refine (scan_Tokens.calls k1 (strOfNums x3_1) t296 t299 t300 t301 _ A16.out).mono ?_); rintro e w24 ⟨v297, rfl, ho0, hb⟩; refine ⟨_, rfl, ?_⟩; have n0_ := Aside0.mk (Kd.R_below (by (with_reducible repeat (first | apply Kd.R_alloc | apply Kd.R_drewN | apply Kd.R_drew)); exact HO_3.out) hb); have n1_ := Aside0.mk (Kd.R_lower ho0 (below_size (by repeat (first | (with_reducible first | exact HB.out | apply below_alloc | apply pw_below_drewN | apply below_drew1) | exact HB.out)))); have n2_ := Aside0.mk (below_step (by repeat (first | (with_reducible first | exact HB.out | apply below_alloc | apply pw_below_drewN | apply below_drew1) | exact HB.out)) hb); clear HO_3; clear HB; have HO_3 := n0_; have HO298 := n1_; have HB := n2_; clear n0_ n1_ n2_; (try clear hb); (try clear hb2); (try clear hk); (try clear hi); (try clear ho0)) | ((with_reducible refine gate_dst (N := 6) rfl ?_); (try (refine gate_guard (by rfl) ?_; dsimp only)); refine box_event ?hg (N := 6) ?hd (cs := #[.int .i64 0, .int .i64 0]) (t := 25) ?hr ?_; (case hd => rfl); (case hg => rfl); (case hr => first | (go_simp; done) | (go_simp; rfl)); intro gb302 hg w25 hbox hb; have n0_ := Aside0.mk (Kd.R_below (by (with_reducible repeat (first | apply Kd.R_alloc | apply Kd.R_drewN | apply Kd.R_drew)); exact HO_3.out) hb); have n1_ := Aside0.mk (Kd.R_below (by (with_reducible repeat (first | apply Kd.R_alloc | apply Kd.R_drewN | apply Kd.R_drew)); exact HO298.out) hb); have n2_ := Aside0.mk (below_step (by repeat (first | (with_reducible first | exact HB.out | apply below_alloc | apply pw_below_drewN | apply below_drew1) | exact HB.out)) hb); have n3_ := Aside0.mk (hbox); have n4_ := Aside0.mk ((by rw [hg]; exact (below_size (by repeat (first | (with_reducible first | exact HB.out | apply below_alloc | apply pw_below_drewN | apply below_drew1) | exact HB.out))) : w.heap.size ≤ gb302)); have n5_ := Aside0.mk ((by rw [hg]; exact (below_size (by repeat (first | (with_reducible first | exact HB.out | apply below_alloc | apply pw_below_drewN | apply below_drew1) | exact HB.out))) : w.heap.size ≤ gb302)); clear HO_3; clear HO298; clear HB; have HO_3 := n0_; have HO298 := n1_; have HB := n2_; have BK302 := n3_; have GW302 := n4_; have GE302 := n5_; clear n0_ n1_ n2_ n3_ n4_ n5_; clear hb hbox hg; have hcz26_0 : w25.cell? ⟨gb302, 0, none⟩ = some (.int .i64 0) := (blk_cell BK302.out 0).trans rfl; have hcz26_1 : w25.cell? ⟨gb302, 1, none⟩ = some (.int .i64 0) := (blk_cell BK302.out 1).trans rfl; have hfz26_0 := blk_frozen BK302.out 0; have hfz26_1 := blk_frozen BK302.out 1; obtain ⟨Ao27, co27, eo27⟩ := Kd.R_slice HO298.out; subst eo27) | (go_at_call 11; (with_reducible refine (regimenlaw12_awake.calls k1  t303 _ A21.out).mono ?_); rintro e w28 ⟨rfl, hb⟩; have n0_ := Aside0.mk (Kd.R_below (by (with_reducible repeat (first | apply Kd.R_alloc | apply Kd.R_drewN | apply Kd.R_drew)); exact (Kd.R_mono (Kd.R_far (p := ⟨gb302, 1, none⟩) (Kd.R_far (p := ⟨gb302, 0, none⟩) (Kd.R_types HO_3.out BK302.out (by decide)) (fun _ hk => hk.2) (.int .i64 t299)) (fun _ hk => hk.2) (.int .i64 t300)) (fun _ h_ => h_.1))) hb); have n1_ := Aside0.mk (Kd.R_below (by (with_reducible repeat (first | apply Kd.R_alloc | apply Kd.R_drewN | apply Kd.R_drew)); exact (Kd.R_mono (Kd.R_far (p := ⟨gb302, 1, none⟩) (Kd.R_far (p := ⟨gb302, 0, none⟩) (Kd.R_types HO298.out BK302.out (by decide)) (fun _ hk => hk.2) (.int .i64 t299)) (fun _ hk => hk.2) (.int .i64 t300)) (fun _ h_ => h_.1))) hb); have n2_ := Aside0.mk (blk_below (g := gb302) (o := .cells #[.int .i64 t299, .int .i64 t300] 25 (0, 0)) (by (with_reducible repeat (first | refine blk_drewN ?_ _ | refine blk_drew ?_ | refine blk_alloc ?_ _)); refine blk_put (cs := #[.int .i64 t299, .int .i64 0]) ?_ 1 _ rfl; (with_reducible repeat (first | refine blk_drewN ?_ _ | refine blk_drew ?_ | refine blk_alloc ?_ _)); refine blk_put (cs := #[.int .i64 0, .int .i64 0]) ?_ 0 _ rfl; (with_reducible repeat (first | refine blk_drewN ?_ _ | refine blk_drew ?_ | refine blk_alloc ?_ _)); exact BK302.out) hb); have n3_ := Aside0.mk (below_step (by repeat (first | (with_reducible first | exact HB.out | apply below_alloc | apply pw_below_drewN | apply below_drew1 | refine below_set ?_ GE302.out) | exact HB.out)) hb); clear HO_3; clear HO298; clear BK302; clear HB; have HO_3 := n0_; have HO298 := n1_; have BK302 := n2_; have HB := n3_; clear n0_ n1_ n2_ n3_; (try clear hb); (try clear hb2); (try clear hk); (try clear hi)))
                      go_ret
                      exact ⟨by first | rfl | (simp [errW_none, errW_some] <;> rfl) | (simp only [← hji5]; first | rfl | (simp [errW_none, errW_some] <;> rfl)) | (simp [*, errW_none, errW_some] <;> rfl), by repeat (first | (with_reducible first | exact HB.out | apply below_alloc | apply pw_below_drewN | apply below_drew1 | refine below_set ?_ GE302.out) | exact HB.out)⟩
                    · rw [if_neg c20] at H
                      exact absurd H (by simp)
                  · rw [if_neg c19] at H
                    exact absurd H (by simp)
                · rw [if_neg c18] at H
                  exact absurd H (by simp)
              · rw [if_neg c17] at H
                have c17b0 : decide (4000 < a0) = false := decide_eq_false c17
                clear c17
                by_cases c29 : (t296.length : Int) = (wrap64 ((wrap64 (a0)) + 1))
                · rw [if_pos c29] at H
                  have c29b0 : ((t296.length : Int) == (wrap64 ((wrap64 (a0)) + 1))) = true := beq_iff_eq.mpr c29
                  (try (have c29b0j := c29b0; simp only [hji5] at c29b0j))
                  have c29b1 : ((t296.length : Int) != (wrap64 ((wrap64 (a0)) + 1))) = false := bne_eq_false_iff_eq.mpr c29
                  (try (have c29b1j := c29b1; simp only [hji5] at c29b1j))
                  clear c29
                  by_cases c30 : (t299 == 0 && (t300 == 0)) = true
                  · rw [if_pos c30] at H
                    have c30b0 : (t299 == 0 && (t300 == 0)) = true := c30
                    (try (have c30b1 : decide (t299 = 0 && (t300 == 0)) = true := by simpa using c30))
                    (try (have c30b2 : (t299 == 0 && (t300 == 0)) = true := by simpa using c30))
                    clear c30
                    by_cases c31 : t301 = 0
                    · rw [if_pos c31] at H
                      have c31b0 : (t301 == 0) = true := beq_iff_eq.mpr c31
                      have c31b1 : (t301 != 0) = false := bne_eq_false_iff_eq.mpr c31
                      clear c31
                      (try (have c31_c30b0 := c30b0; simp only [c31b0, Bool.true_and, Bool.and_true, Bool.false_or, Bool.or_false, Bool.not_true, Bool.not_false] at c31_c30b0))
                      obtain ⟨ji32, hji32⟩ : ∃ j_ : Int, (wrap64 ((t296.length : Int) - 1)) = j_ := ⟨_, rfl⟩
                      replace H : (if 0 ≤ (ji32) then (if (ji32) < (t296.length : Int) then (if (((rd_T34 t296 (ji32)).f0) == 0 && ((((rd_T34 t296 (ji32)).f1).toList) == ([] : List UInt8) && ((((rd_T34 t296 (ji32)).f2.f0) == 1 && (((rd_T34 t296 (ji32)).f2.f1) == (wrap64 ((wrap64 (a0)) + 1))))))) = true then ((regimenlaw12_awake.f k1).bind fun t305 => (some t305)) else (none)) else (none)) else (none)) = some r := by first | (rw [hji32] at H; exact H) | (simp only [hji32] at H ⊢; exact H)
                      (try rw [hji32] at A16)
                      have hji32w : (IntKind.i64.wrap ((t296.length : Int) - 1)) = ji32 := (i64_w _).trans hji32
                      (try (have hji32e := hji32; simp only [beq_iff_eq.mp c29b0, hji5] at hji32e))
                      by_cases c33 : 0 ≤ (ji32)
                      · rw [if_pos c33] at H
                        have c33b0 : decide (0 ≤ (ji32)) = true := decide_eq_true c33
                        clear c33
                        by_cases c34 : (ji32) < (t296.length : Int)
                        · rw [if_pos c34] at H
                          have c34b0 : decide ((ji32) < (t296.length : Int)) = true := decide_eq_true c34
                          clear c34
                          by_cases c35 : (((rd_T34 t296 (ji32)).f0) == 0 && ((((rd_T34 t296 (ji32)).f1).toList) == ([] : List UInt8) && ((((rd_T34 t296 (ji32)).f2.f0) == 1 && (((rd_T34 t296 (ji32)).f2.f1) == (wrap64 ((wrap64 (a0)) + 1))))))) = true
                          · rw [if_pos c35] at H
                            have c35b0 : (((rd_T34 t296 (ji32)).f0) == 0 && ((((rd_T34 t296 (ji32)).f1).toList) == ([] : List UInt8) && ((((rd_T34 t296 (ji32)).f2.f0) == 1 && (((rd_T34 t296 (ji32)).f2.f1) == (wrap64 ((wrap64 (a0)) + 1))))))) = true := c35
                            (try (have c35b0j := c35b0; simp only [hji5] at c35b0j; try (have c35b0p := c35b0j; simp only [Bool.and_eq_true, beq_iff_eq] at c35b0p)))
                            (try (have c35b1 : decide (((rd_T34 t296 (ji32)).f0) = 0 && ((((rd_T34 t296 (ji32)).f1).toList) == ([] : List UInt8) && ((((rd_T34 t296 (ji32)).f2.f0) == 1 && (((rd_T34 t296 (ji32)).f2.f1) == (wrap64 ((wrap64 (a0)) + 1))))))) = true := by simpa using c35))
                            (try (have c35b2 : (((rd_T34 t296 (ji32)).f0) == 0 && ((((rd_T34 t296 (ji32)).f1).toList) == ([] : List UInt8) && ((((rd_T34 t296 (ji32)).f2.f0) == 1 && (((rd_T34 t296 (ji32)).f2.f1) == (wrap64 ((wrap64 (a0)) + 1))))))) = true := by simpa using c35))
                            clear c35
                            (try (have c35_c30b0 := c30b0; simp only [c35b0, Bool.true_and, Bool.and_true, Bool.false_or, Bool.or_false, Bool.not_true, Bool.not_false] at c35_c30b0))
                            replace H := Option.bind_eq_some_iff.mp H
                            obtain ⟨t305, A360, H⟩ := H
                            replace H : (some t305) = some r := H
                            have A36 := Aside0.mk A360
                            clear A360
                            obtain rfl := Option.some.inj H
                            obtain ⟨Ao37, co37, eo37⟩ := Kd.R_slice HO_3.out
                            subst eo37
                            have hcv38 := own_string (P := Try.prog) Try.underlying32 Try.underlying5 Try.underlying9 (Kd.own_of_R HO_3.out)
                            go_wp2_with (first | ((with_reducible refine gate_callee (f := 12) rfl ?_); refine goesL_ (some 26) rfl rfl Try.func12 (by kernel_rfl) rfl #[.string (strOfNums x3_1)] rfl (by (try simp only [List.map_toArray, List.map_cons, List.map_nil]); first | done | rfl | (simp only [List.length_drop, List.length_take]; rfl)) ?_; (with_reducible refine (scan_Tokens.calls k1 (strOfNums x3_1) t296 t299 t300 t301 _ A16.out).mono ?_); rintro e w39 ⟨v297, rfl, ho0, hb⟩; refine ⟨_, rfl, ?_⟩; have n0_ := Aside0.mk (Kd.R_below (by (with_reducible repeat (first | apply Kd.R_alloc | apply Kd.R_drewN | apply Kd.R_drew)); exact HO_3.out) hb); have n1_ := Aside0.mk (Kd.R_lower ho0 (below_size (by repeat (first | (with_reducible first | exact HB.out | apply below_alloc | apply pw_below_drewN | apply below_drew1) | exact HB.out)))); have n2_ := Aside0.mk (below_step (by repeat (first | (with_reducible first | exact HB.out | apply below_alloc | apply pw_below_drewN | apply below_drew1) | exact HB.out)) hb); clear HO_3; clear HB; have HO_3 := n0_; have HO298 := n1_; have HB := n2_; clear n0_ n1_ n2_; (try clear hb); (try clear hb2); (try clear hk); (try clear hi); (try clear ho0)) | ((with_reducible refine gate_dst (N := 6) rfl ?_); (try (refine gate_guard (by rfl) ?_; dsimp only)); refine box_event ?hg (N := 6) ?hd (cs := #[.int .i64 0, .int .i64 0]) (t := 25) ?hr ?_; (case hd => rfl); (case hg => rfl); (case hr => first | (go_simp; done) | (go_simp; rfl)); intro gb302 hg w40 hbox hb; have n0_ := Aside0.mk (Kd.R_below (by (with_reducible repeat (first | apply Kd.R_alloc | apply Kd.R_drewN | apply Kd.R_drew)); exact HO_3.out) hb); have n1_ := Aside0.mk (Kd.R_below (by (with_reducible repeat (first | apply Kd.R_alloc | apply Kd.R_drewN | apply Kd.R_drew)); exact HO298.out) hb); have n2_ := Aside0.mk (below_step (by repeat (first | (with_reducible first | exact HB.out | apply below_alloc | apply pw_below_drewN | apply below_drew1) | exact HB.out)) hb); have n3_ := Aside0.mk (hbox); have n4_ := Aside0.mk ((by rw [hg]; exact (below_size (by repeat (first | (with_reducible first | exact HB.out | apply below_alloc | apply pw_below_drewN | apply below_drew1) | exact HB.out))) : w.heap.size ≤ gb302)); have n5_ := Aside0.mk ((by rw [hg]; exact (below_size (by repeat (first | (with_reducible first | exact HB.out | apply below_alloc | apply pw_below_drewN | apply below_drew1) | exact HB.out))) : w.heap.size ≤ gb302)); clear HO_3; clear HO298; clear HB; have HO_3 := n0_; have HO298 := n1_; have HB := n2_; have BK302 := n3_; have GW302 := n4_; have GE302 := n5_; clear n0_ n1_ n2_ n3_ n4_ n5_; clear hb hbox hg; have hcz41_0 : w40.cell? ⟨gb302, 0, none⟩ = some (.int .i64 0) := (blk_cell BK302.out 0).trans rfl; have hcz41_1 : w40.cell? ⟨gb302, 1, none⟩ = some (.int .i64 0) := (blk_cell BK302.out 1).trans rfl; have hfz41_0 := blk_frozen BK302.out 0; have hfz41_1 := blk_frozen BK302.out 1; obtain ⟨Ao42, co42, eo42⟩ := Kd.R_slice HO298.out; subst eo42; have p304 : 0 ≤ ((ji32) : Int) := of_decide_eq_true (by first | (with_reducible assumption) | assumption); have q304 : (ji32) < (t296.length : Int) := of_decide_eq_true (by first | (with_reducible assumption) | assumption); obtain ⟨ad304, e304, hx304_0, hx304_1, hx304_2, hx304_3⟩ := at_T34 (Kd.R_reads' HO298.out).2.2 (ji32) p304 q304; cases e304; have hn304_0 : ad304.block ≠ gb302 := Kd.own_blk (Kd.R_ne HO298.out BK302.out (by decide)); have hn304_1 : ad304.block ≠ gb302 := Kd.own_blk (Kd.R_ne HO298.out BK302.out (by decide)); replace hx304_0 := (cell_far (p := ⟨gb302, 0, none⟩) (by first | (rw [add_block]; exact hn304_0) | (show (Addr.add _ _).block ≠ _; rw [add_block]; exact hn304_0) | exact hn304_0) (.int .i64 t299)).trans hx304_0; replace hx304_1 := (cell_far (p := ⟨gb302, 0, none⟩) (by first | (rw [add_block]; exact hn304_0) | (show (Addr.add _ _).block ≠ _; rw [add_block]; exact hn304_0) | exact hn304_0) (.int .i64 t299)).trans hx304_1; replace hx304_2 := (cell_far (p := ⟨gb302, 0, none⟩) (by first | (rw [add_block]; exact hn304_0) | (show (Addr.add _ _).block ≠ _; rw [add_block]; exact hn304_0) | exact hn304_0) (.int .i64 t299)).trans hx304_2; replace hx304_3 := (cell_far (p := ⟨gb302, 0, none⟩) (by first | (rw [add_block]; exact hn304_0) | (show (Addr.add _ _).block ≠ _; rw [add_block]; exact hn304_0) | exact hn304_0) (.int .i64 t299)).trans hx304_3; replace hx304_0 := (cell_far (p := ⟨gb302, 1, none⟩) (by first | (rw [add_block]; exact hn304_1) | (show (Addr.add _ _).block ≠ _; rw [add_block]; exact hn304_1) | exact hn304_1) (.int .i64 t300)).trans hx304_0; replace hx304_1 := (cell_far (p := ⟨gb302, 1, none⟩) (by first | (rw [add_block]; exact hn304_1) | (show (Addr.add _ _).block ≠ _; rw [add_block]; exact hn304_1) | exact hn304_1) (.int .i64 t300)).trans hx304_1; replace hx304_2 := (cell_far (p := ⟨gb302, 1, none⟩) (by first | (rw [add_block]; exact hn304_1) | (show (Addr.add _ _).block ≠ _; rw [add_block]; exact hn304_1) | exact hn304_1) (.int .i64 t300)).trans hx304_2; replace hx304_3 := (cell_far (p := ⟨gb302, 1, none⟩) (by first | (rw [add_block]; exact hn304_1) | (show (Addr.add _ _).block ≠ _; rw [add_block]; exact hn304_1) | exact hn304_1) (.int .i64 t300)).trans hx304_3; clear hn304_0; clear hn304_1; replace p304 := eq_true p304; replace q304 := eq_true q304) | (go_at_call 11; (with_reducible refine (regimenlaw12_awake.calls k1  t305 _ A36.out).mono ?_); rintro e w43 ⟨rfl, hb⟩; have n0_ := Aside0.mk (Kd.R_below (by (with_reducible repeat (first | apply Kd.R_alloc | apply Kd.R_drewN | apply Kd.R_drew)); exact (Kd.R_mono (Kd.R_far (p := ⟨gb302, 1, none⟩) (Kd.R_far (p := ⟨gb302, 0, none⟩) (Kd.R_types HO_3.out BK302.out (by decide)) (fun _ hk => hk.2) (.int .i64 t299)) (fun _ hk => hk.2) (.int .i64 t300)) (fun _ h_ => h_.1))) hb); have n1_ := Aside0.mk (Kd.R_below (by (with_reducible repeat (first | apply Kd.R_alloc | apply Kd.R_drewN | apply Kd.R_drew)); exact (Kd.R_mono (Kd.R_far (p := ⟨gb302, 1, none⟩) (Kd.R_far (p := ⟨gb302, 0, none⟩) (Kd.R_types HO298.out BK302.out (by decide)) (fun _ hk => hk.2) (.int .i64 t299)) (fun _ hk => hk.2) (.int .i64 t300)) (fun _ h_ => h_.1))) hb); have n2_ := Aside0.mk (blk_below (g := gb302) (o := .cells #[.int .i64 t299, .int .i64 t300] 25 (0, 0)) (by (with_reducible repeat (first | refine blk_drewN ?_ _ | refine blk_drew ?_ | refine blk_alloc ?_ _)); refine blk_put (cs := #[.int .i64 t299, .int .i64 0]) ?_ 1 _ rfl; (with_reducible repeat (first | refine blk_drewN ?_ _ | refine blk_drew ?_ | refine blk_alloc ?_ _)); refine blk_put (cs := #[.int .i64 0, .int .i64 0]) ?_ 0 _ rfl; (with_reducible repeat (first | refine blk_drewN ?_ _ | refine blk_drew ?_ | refine blk_alloc ?_ _)); exact BK302.out) hb); have n3_ := Aside0.mk (below_step (by repeat (first | (with_reducible first | exact HB.out | apply below_alloc | apply pw_below_drewN | apply below_drew1 | refine below_set ?_ GE302.out) | exact HB.out)) hb); clear HO_3; clear HO298; clear BK302; clear HB; have HO_3 := n0_; have HO298 := n1_; have BK302 := n2_; have HB := n3_; clear n0_ n1_ n2_ n3_; (try clear hb); (try clear hb2); (try clear hk); (try clear hi)))
                            go_ret
                            exact ⟨by first | rfl | (simp [errW_none, errW_some] <;> rfl) | (simp only [← hji5, ← hji32]; first | rfl | (simp [errW_none, errW_some] <;> rfl)) | (simp [*, errW_none, errW_some] <;> rfl), by repeat (first | (with_reducible first | exact HB.out | apply below_alloc | apply pw_below_drewN | apply below_drew1 | refine below_set ?_ GE302.out) | exact HB.out)⟩
                          · rw [if_neg c35] at H
                            exact absurd H (by simp)
                        · rw [if_neg c34] at H
                          exact absurd H (by simp)
                      · rw [if_neg c33] at H
                        exact absurd H (by simp)
                    · rw [if_neg c31] at H
                      exact absurd H (by simp)
                  · rw [if_neg c30] at H
                    exact absurd H (by simp)
                · rw [if_neg c29] at H
                  exact absurd H (by simp)
      · rw [if_neg c7] at H
        exact absurd H (by simp)
    · rw [if_neg c6] at H
      exact absurd H (by simp)

/-- THE ONE PURE STATEMENT of regimenlaw12_ScanFull: yours. -/
def regimenlaw12_ScanFull.Pure : Prop := ∀ (a0 : Int), ((Lit.int .u16 a0).wf = true) → ∃ k, regimenlaw12_ScanFull.f k a0 = some true
theorem regimenlaw12_ScanFull.walk (P : regimenlaw12_ScanFull.Pure) (a0 : Int) (w : World) (w0 : (Lit.int .u16 a0).wf = true) :
    Calls Try.prog 4 #[.int .u16 a0] w fun e w' => e = .returned (.bool true) ∧ Below w.heap.size w w' := by
  obtain ⟨k, h⟩ := P a0 w0
  refine (regimenlaw12_ScanFull.calls k a0 true w h).mono ?_
  rintro e w' ⟨rfl, hd⟩
  exact ⟨rfl, hd⟩

end Go.Proofs.Ytnmmhfpekeeedaa.PS
