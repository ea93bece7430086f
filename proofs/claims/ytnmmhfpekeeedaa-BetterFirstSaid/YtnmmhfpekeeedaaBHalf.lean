/- Quotients, cut and rounded (layer 3): the program's and the reference's, by value. -/
import Derived.Test.YtnmmhfpekeeedaaPBx3
import Derived.Test.YtnmmhfpekeeedaaPBx4
import Derived.Test.YtnmmhfpekeeedaaPBx5
import Derived.Test.YtnmmhfpekeeedaaPBx7
import Derived.Test.YtnmmhfpekeeedaaBDiv
namespace Go.Proofs.Ytnmmhfpekeeedaa.Num
set_option linter.unusedVariables false
set_option linter.unusedSimpArgs false
open Go.RowKit Go.Proofs.Ytnmmhfpekeeedaa.PB Go.Proofs.YtnmmhfpekeeedaaW.PrintWords Go.Proofs.YtnmmhfpekeeedaaW.PrintMore

/-- The whole number nearest to a quotient, the even one of two. -/
def rnd (V d : Int) : Int := V / d + (if 2 * (V % d) > d ∨ (2 * (V % d) = d ∧ V / d % 2 = 1) then 1 else 0)
def near (V d : Int) : Int × Int := if d = 0 then (0, 5) else if rnd V d < 18446744073709551616 then (rnd V d, 0) else (0, 4)

theorem rnd_bounds (V d : Int) : V / d ≤ rnd V d ∧ rnd V d ≤ V / d + 1 := by
  unfold rnd
  split <;> omega

theorem half_over_ok {hi lo d : Int} (h0 : 0 ≤ hi) (h1 : hi < 18446744073709551616) (h2 : 0 ≤ lo) (h3 : lo < 18446744073709551616) (h4 : 0 ≤ d) (h5 : d < 18446744073709551616) :
    Ev (fun k => half_Over.f k hi lo d) (if d = 0 then (0, 0, 5) else if hi ≥ d then (0, 0, 4) else ((lo + 18446744073709551616 * hi) / d, (lo + 18446744073709551616 * hi) % d, 0)) := by
  unfold half_Over.f
  by_cases c : d = 0
  · rw [if_pos c]
    exact evp c (Ev.now _)
  · rw [if_neg c]
    refine evn c ?_
    by_cases c2 : hi ≥ d
    · rw [if_pos c2]
      exact evp c2 (Ev.now _)
    · rw [if_neg c2]
      refine evn c2 ?_
      exact Ev.bind (div64_ok h0 (by omega) h5 h2 h3) (Ev.now _)

theorem half_up_ok {q r d : Int} (hq : 0 ≤ q) (h0 : 0 ≤ r) (h1 : r < d) (h2 : d < 18446744073709551616) : half_up.f q r d = some (decide (2 * r > d ∨ (2 * r = d ∧ q % 2 = 1))) := by
  unfold half_up.f
  rw [u64_id (x := d - r) (by omega) (by omega), tmod_pos hq]
  by_cases c : r > d - r
  · rw [if_pos c, decide_eq_true (.inl (by omega))]
  · rw [if_neg c]
    by_cases c2 : r = d - r
    · rw [if_pos c2]
      congr 1
      rw [Bool.eq_iff_iff, beq_iff_eq, decide_eq_true_iff]
      omega
    · rw [if_neg c2, decide_eq_false (by omega)]

theorem half_near_ok {hi lo d : Int} (h0 : 0 ≤ hi) (h1 : hi < 18446744073709551616) (h2 : 0 ≤ lo) (h3 : lo < 18446744073709551616) (h4 : 0 ≤ d) (h5 : d < 18446744073709551616) :
    Ev (fun k => half_Near.f k hi lo d) (near (lo + 18446744073709551616 * hi) d) := by
  unfold half_Near.f
  have ho := half_over_ok h0 h1 h2 h3 h4 h5
  unfold near
  by_cases c : d = 0
  · rw [if_pos c] at ho
    rw [if_pos c]
    refine Ev.bind ho ?_
    refine evn (by simp) ?_
    exact Ev.step (f := fun _ => some _) (fun k => by simp [half_Near.j0]) (Ev.now _)
  · rw [if_neg c] at ho
    rw [if_neg c]
    obtain ⟨b1, b2⟩ := quo_bounds (N := lo + 18446744073709551616 * hi) (y := d) (by omega) rfl
    have hr := rnd_bounds (lo + 18446744073709551616 * hi) d
    by_cases c2 : hi ≥ d
    · rw [if_pos c2] at ho
      have : 18446744073709551616 ≤ (lo + 18446744073709551616 * hi) / d := Int.le_ediv_of_mul_le (by omega) (by omega)
      rw [if_neg (by omega)]
      refine Ev.bind ho ?_
      refine evn (by simp) ?_
      exact Ev.step (f := fun _ => some _) (fun k => by simp [half_Near.j0]) (Ev.now _)
    · rw [if_neg c2] at ho
      have hq0 : 0 ≤ (lo + 18446744073709551616 * hi) / d := Int.ediv_nonneg (by omega) (by omega)
      have hq1 : (lo + 18446744073709551616 * hi) / d < 18446744073709551616 := Int.ediv_lt_of_lt_mul (by omega) (by omega)
      have hr0 := Int.emod_nonneg (lo + 18446744073709551616 * hi) (show d ≠ 0 by omega)
      have hr1 := Int.emod_lt_of_pos (lo + 18446744073709551616 * hi) (show 0 < d by omega)
      have hu := half_up_ok hq0 hr0 hr1 h5
      refine Ev.bind ho ?_
      refine evp rfl ?_
      refine evs hu ?_
      unfold rnd
      by_cases cu : 2 * ((lo + 18446744073709551616 * hi) % d) > d ∨ (2 * ((lo + 18446744073709551616 * hi) % d) = d ∧ (lo + 18446744073709551616 * hi) / d % 2 = 1)
      · rw [if_pos cu]
        by_cases cw : (lo + 18446744073709551616 * hi) / d + 1 < 18446744073709551616
        · rw [if_pos cw]
          refine Ev.step (f := fun _ => some _) (fun k => ?_) (Ev.now _)
          simp only [half_Near.j0]
          rw [if_neg (by simp [cu]), u64_id (by omega) cw, if_neg (by omega)]
        · rw [if_neg cw]
          refine Ev.step (f := fun _ => some _) (fun k => ?_) (Ev.now _)
          simp only [half_Near.j0]
          rw [if_neg (by simp [cu]), u64_mod, if_pos (by omega)]
      · rw [if_neg cu, Int.add_zero, if_pos hq1]
        refine Ev.step (f := fun _ => some _) (fun k => ?_) (Ev.now _)
        simp only [half_Near.j0]
        rw [if_pos (by simp [cu])]

theorem half_shift_ok {hi lo : Int} (n : Int) (h1 : 0 ≤ hi ∧ hi < 18446744073709551616) (h2 : 0 ≤ lo ∧ lo < 18446744073709551616) :
    Ev (fun k => half_Shift.f k hi lo n) (near (lo + 18446744073709551616 * hi) (2 ^ min n.toNat 63)) := by
  have hm : mn (mx n 0) 63 = ((min n.toNat 63 : Nat) : Int) := by
    unfold mn mx
    by_cases h : n < 0
    · rw [if_pos h]; split <;> omega
    · rw [if_neg h]; split <;> omega
  have hs := pair_shl_ok (a0 := 0) (a1 := 1) ((min n.toNat 63 : Nat) : Int) (by omega) (by omega)
  have hk : min n.toNat 63 ≤ 63 := Nat.min_le_right _ _
  have he : held ((min n.toNat 63 : Nat) : Int) = min n.toNat 63 := by unfold held; omega
  rw [he] at hs
  generalize min n.toNat 63 = k at *
  have hp1 := p2_pos k
  have hp2 : (2 : Int) ^ k < 18446744073709551616 := by
    have h := p2_split k (by omega)
    have h2 := p2_pred (m := 64 - k) (by omega)
    have h3 := p2_pos (64 - k - 1)
    have h4 : (2 : Int) ^ k * 2 ≤ 2 ^ k * 2 ^ (64 - k) := Int.mul_le_mul_of_nonneg_left (by omega) (Int.le_of_lt hp1)
    omega
  have e1 : (1 + 18446744073709551616 * (0 : Int)) * 2 ^ k = 2 ^ k := by omega
  have hn := half_near_ok h1.1 h1.2 h2.1 h2.2 (Int.le_of_lt hp1) hp2
  rw [e1, Int.emod_eq_of_lt (a := 2 ^ k) (Int.le_of_lt hp1) hp2] at hs
  unfold half_Shift.f
  rw [hm]
  refine evs hs ?_
  exact Ev.bind hn (Ev.now _)

/-! ### the reference's quotient, bit by bit -/
theorem quot_step {T D q r b : Int} (hD : 0 < D) (hq : q = T / D) (hr : r = T % D) (hb0 : 0 ≤ b) (hb1 : b ≤ 1) :
    (2 * r + b ≥ D → (2 * T + b) / D = 2 * q + 1 ∧ (2 * T + b) % D = 2 * r + b - D) ∧ (2 * r + b < D → (2 * T + b) / D = 2 * q ∧ (2 * T + b) % D = 2 * r + b) := by
  obtain ⟨e, r0, r1⟩ := cut_ex T D hD
  rw [← hq, ← hr] at e
  rw [← hr] at r0 r1
  have e2 : D * (2 * q) = 2 * (D * q) := by rw [Int.mul_left_comm]
  constructor
  · intro h
    exact div_uniq (by rw [Int.mul_add, e2, Int.mul_one]; omega) (by omega) (by omega)
  · intro h
    exact div_uniq (by rw [e2]; omega) (by omega) (by omega)

theorem quot_bits (a : Int) (j : Nat) (hj : j < 16) : a / 2 ^ (15 - j) / 2 = a / 2 ^ (16 - j) ∧ a / 2 ^ (15 - j) % 2 + 2 * (a / 2 ^ (16 - j)) = a / 2 ^ (15 - j) := by
  have e : (2 : Int) ^ (16 - j) = 2 ^ (15 - j) * 2 := by
    have h := p2_pred (m := 16 - j) (by omega)
    rwa [show 16 - j - 1 = 15 - j by omega] at h
  have e2 : a / 2 ^ (16 - j) = a / 2 ^ (15 - j) / 2 := by rw [e, Int.ediv_ediv_of_nonneg (Int.le_of_lt (p2_pos _))]
  omega

theorem quot_l2 (a D q r : List Int) (hq : dok q) (tq : tg q) (hr : dok r) (hD : dok D) (N : Nat) (hlq : q.length ≤ N) (hlr : r.length ≤ N) (hlD : D.length ≤ N) (hN : N < 4000000) (hD0 : 0 < dv D) (T : Int) (eq : dv q = T / dv D) (er : dv r = T % dv D) (i x : Int) (hx0 : 0 ≤ x) (j : Nat) (hj : j < 16) (G : List Int → Prop)
    (H : ∀ q' r' : List Int, dok q' → tg q' → dok r' → q'.length ≤ N + 2 → r'.length ≤ N + 2 → dv q' = (2 * T + x / 2 ^ (15 - j) % 2) / dv D → dv r' = (2 * T + x / 2 ^ (15 - j) % 2) % dv D → ∃ z, Ev (fun k => regimenref03_Quotient.l1 k a D q' r' i ((j + 1 : Nat) : Int)) z ∧ G z) (d : Nat) :
    ∀ (m : Nat) (w : Int), 15 - m = d → j ≤ m → m ≤ 15 → w = x / 2 ^ (m - j) → x < 18446744073709551616 → ∃ z, Ev (fun k => regimenref03_Quotient.l2 k a D q r i (j : Int) w (m : Int)) z ∧ G z := by
  induction d with
  | zero =>
    intro m w hd hm hm2 hw hx1
    obtain rfl : m = 15 := by omega
    have hw0 : 0 ≤ w := by rw [hw]; exact Int.ediv_nonneg hx0 (Int.le_of_lt (p2_pos _))
    rw [hw]
    rw [hw] at hw0
    generalize hxx : x / 2 ^ (15 - j) = y at *
    have hb0 : 0 ≤ y % 2 ∧ y % 2 ≤ 1 := by omega
    obtain ⟨r2, hr2, dr2, vr2, lr2⟩ := plus_ok r r hr hr N hlr hlr (by omega)
    obtain ⟨r3, hr3, dr3, vr3, lr3⟩ := plus_ok r2 [y % 2] dr2 (dok_cons (by omega) dok_nil) (N + 1) lr2 (by simp) (by omega)
    obtain ⟨q2, hq2, dq2, vq2, lq2, tq2⟩ := tg_plus q q hq hq tq tq (by omega) (by omega) N hlq hlq
    have hc := cmp_ok r3 D dr3 hD (by omega) (by omega)
    have v3 : dv r3 = 2 * dv r + y % 2 := by rw [vr3, vr2]; simp [dv]; omega
    obtain ⟨s1, s2⟩ := quot_step hD0 eq er hb0.1 hb0.2
    by_cases c : dv r3 ≥ dv D
    · obtain ⟨r4, hr4, dr4, vr4, lr4⟩ := less_ok r3 D dr3 hD (by omega) c
      obtain ⟨q3, hq3, dq3, vq3, lq3, tq3⟩ := tg_plus q2 [1] dq2 (dok_cons (by omega) dok_nil) tq2 (.inl (by simp)) (by omega) (by simp) (N + 1) lq2 (by simp)
      obtain ⟨s3, s4⟩ := s1 (by omega)
      obtain ⟨z, hz, hG⟩ := H q3 r4 dq3 tq3 dr4 lq3 (by omega) (by rw [vq3, vq2, s3]; simp [dv]; omega) (by rw [vr4, v3, s4])
      refine ⟨z, ?_, hG⟩
      refine Ev.step (fun k => by rw [regimenref03_Quotient.l2]) ?_
      refine evn (by omega) ?_
      refine Ev.bind hr2 ?_
      rw [tmod_pos hw0]
      refine Ev.bind hr3 ?_
      refine Ev.bind hq2 ?_
      refine Ev.bind hc ?_
      refine evp (by rw [if_neg (by omega)]; split <;> omega) ?_
      refine Ev.bind hr4 ?_
      refine Ev.bind hq3 ?_
      rw [w64_succ (by omega)]
      exact hz
    · obtain ⟨s3, s4⟩ := s2 (by omega)
      obtain ⟨z, hz, hG⟩ := H q2 r3 dq2 tq2 dr3 (by omega) lr3 (by rw [vq2, s3]; omega) (by rw [v3, s4])
      refine ⟨z, ?_, hG⟩
      refine Ev.step (fun k => by rw [regimenref03_Quotient.l2]) ?_
      refine evn (by omega) ?_
      refine Ev.bind hr2 ?_
      rw [tmod_pos hw0]
      refine Ev.bind hr3 ?_
      refine Ev.bind hq2 ?_
      refine Ev.bind hc ?_
      refine evn (by rw [if_pos (by omega)]; omega) ?_
      rw [w64_succ (by omega)]
      exact hz
  | succ d ih =>
    intro m w hd hm hm2 hw hx1
    have hw0 : 0 ≤ w := by rw [hw]; exact Int.ediv_nonneg hx0 (Int.le_of_lt (p2_pos _))
    have hw1 : w ≤ x := by rw [hw]; exact Int.ediv_le_self _ hx0
    obtain ⟨z, hz, hG⟩ := ih (m + 1) (w / 2) (by omega) (by omega) (by omega) (by
      have h := p2_pred (m := m + 1 - j) (by omega)
      rw [show m + 1 - j - 1 = m - j by omega] at h
      rw [hw, Int.ediv_ediv_of_nonneg (Int.le_of_lt (p2_pos _)), ← h]) hx1
    refine ⟨z, ?_, hG⟩
    refine Ev.step (f := fun k => regimenref03_Quotient.l2 k a D q r i (j : Int) (w / 2) ((m + 1 : Nat) : Int)) (fun k => ?_) hz
    simp only [regimenref03_Quotient.l2]
    rw [if_pos (by omega), tdiv_pos hw0, u64_id (by omega) (by omega), w64_succ (by omega)]

theorem quot_l1 (a D : List Int) (ha : dok a) (hD : dok D) (hlD : D.length ≤ 1000) (hla : a.length ≤ 900) (hD0 : 0 < dv D) (i : Nat) (hi : i < a.length) (G : List Int → Prop)
    (H : ∀ q' r' : List Int, dok q' → tg q' → dok r' → q'.length ≤ 1000 + 32 * (a.length - i) → r'.length ≤ 1000 + 32 * (a.length - i) → dv q' = dv (a.drop i) / dv D → dv r' = dv (a.drop i) % dv D → ∃ z, Ev (fun k => regimenref03_Quotient.l0 k a D q' r' ((i : Int) - 1)) z ∧ G z) (d : Nat) :
    ∀ (j : Nat) (q r : List Int), 16 - j = d → j ≤ 16 → dok q → tg q → dok r → q.length ≤ 1000 + 32 * (a.length - (i + 1)) + 2 * j → r.length ≤ 1000 + 32 * (a.length - (i + 1)) + 2 * j →
      dv q = (dv (a.drop (i + 1)) * 2 ^ j + a.getD i 0 / 2 ^ (16 - j)) / dv D → dv r = (dv (a.drop (i + 1)) * 2 ^ j + a.getD i 0 / 2 ^ (16 - j)) % dv D →
      ∃ z, Ev (fun k => regimenref03_Quotient.l1 k a D q r (i : Int) (j : Int)) z ∧ G z := by
  have hA := dok_getD ha i
  have hdr : dv (a.drop i) = a.getD i 0 + 65536 * dv (a.drop (i + 1)) := by
    rw [List.drop_eq_getElem_cons hi, dv, List.getD_eq_getElem?_getD, List.getElem?_eq_getElem hi]
    rfl
  induction d with
  | zero =>
    intro j q r hd hj dq tq dr lq lr vq vr
    obtain rfl : j = 16 := by omega
    have e : dv (a.drop (i + 1)) * 2 ^ 16 + a.getD i 0 / 2 ^ (16 - 16) = dv (a.drop i) := by
      rw [hdr]; simp; omega
    rw [e] at vq vr
    obtain ⟨z, hz, hG⟩ := H q r dq tq dr (by omega) (by omega) vq vr
    refine ⟨z, ?_, hG⟩
    refine Ev.step (f := fun k => regimenref03_Quotient.l0 k a D q r ((i : Int) - 1)) (fun k => ?_) hz
    simp only [regimenref03_Quotient.l1]
    rw [if_neg (by omega), w64_id (by omega) (by omega)]
  | succ d ih =>
    intro j q r hd hj dq tq dr lq lr vq vr
    have hb := quot_bits (a.getD i 0) j (by omega)
    obtain ⟨z, hz, hG⟩ := quot_l2 a D q r dq tq dr hD (1000 + 32 * (a.length - (i + 1)) + 2 * j) lq lr (by omega) (by omega) hD0 _ vq vr (i : Int) (a.getD i 0) hA.1 j (by omega) G (fun q' r' g1 gt g2 g3 g4 g5 g6 => by
        have e : 2 * (dv (a.drop (i + 1)) * 2 ^ j + a.getD i 0 / 2 ^ (16 - j)) + a.getD i 0 / 2 ^ (15 - j) % 2 = dv (a.drop (i + 1)) * 2 ^ (j + 1) + a.getD i 0 / 2 ^ (16 - (j + 1)) := by
          rw [show 16 - (j + 1) = 15 - j by omega, Int.pow_succ, ← Int.mul_assoc]
          omega
        rw [e] at g5 g6
        exact ih (j + 1) q' r' (by omega) (by omega) g1 gt g2 (by omega) (by omega) g5 g6) _ j (a.getD i 0) rfl (Nat.le_refl _) (by omega) (by simp) (by omega)
    refine ⟨z, ?_, hG⟩
    refine Ev.step (f := fun k => regimenref03_Quotient.l2 k a D q r (i : Int) (j : Int) (a.getD i 0) (j : Int)) (fun k => ?_) hz
    simp only [regimenref03_Quotient.l1]
    rw [if_pos (by omega), if_pos (by omega), if_pos (by omega), rd_nat]

theorem quot_l0 (a D : List Int) (ha : dok a) (hD : dok D) (hlD : D.length ≤ 1000) (hla : a.length ≤ 900) (hD0 : 0 < dv D) (i : Nat) :
    ∀ (q r : List Int), i ≤ a.length → dok q → tg q → dok r → q.length ≤ 1000 + 32 * (a.length - i) → r.length ≤ 1000 + 32 * (a.length - i) → dv q = dv (a.drop i) / dv D → dv r = dv (a.drop i) % dv D →
      ∃ z, Ev (fun k => regimenref03_Quotient.l0 k a D q r ((i : Int) - 1)) z ∧ (dok z ∧ dv z = dv a / dv D ∧ z.length ≤ 1000 + 32 * a.length ∧ tg z) := by
  induction i with
  | zero =>
    intro q r hi dq tq dr lq lr vq vr
    refine ⟨q, ?_, dq, vq, lq, tq⟩
    refine Ev.step (f := fun _ => some q) (fun k => ?_) (Ev.now _)
    simp only [regimenref03_Quotient.l0]
    rw [if_neg (by omega)]
  | succ i ih =>
    intro q r hi dq tq dr lq lr vq vr
    have hA := dok_getD ha i
    have hz0 : a.getD i 0 / 65536 = 0 := Int.ediv_eq_zero_of_lt hA.1 hA.2
    obtain ⟨z, hz, hG⟩ := quot_l1 a D ha hD hlD hla hD0 i (by omega) (fun z => dok z ∧ dv z = dv a / dv D ∧ z.length ≤ 1000 + 32 * a.length ∧ tg z) (fun q' r' g1 gt g2 g3 g4 g5 g6 => ih q' r' (by omega) g1 gt g2 g3 g4 g5 g6) _ 0 q r rfl (by omega) dq tq dr (by omega) (by omega)
      (by rw [vq, Int.pow_zero, Int.mul_one, show (2 : Int) ^ (16 - 0) = 65536 from rfl, hz0, Int.add_zero]) (by rw [vr, Int.pow_zero, Int.mul_one, show (2 : Int) ^ (16 - 0) = 65536 from rfl, hz0, Int.add_zero])
    refine ⟨z, ?_, hG⟩
    refine Ev.step (f := fun k => regimenref03_Quotient.l1 k a D q r (i : Int) ((0 : Nat) : Int)) (fun k => ?_) hz
    simp only [regimenref03_Quotient.l0]
    rw [show (((i + 1 : Nat) : Int) - 1) = (i : Int) by omega, if_pos (by omega)]
    rfl

theorem quotient_ok (a D : List Int) (ha : dok a) (hD : dok D) (hlD : D.length ≤ 1000) (hla : a.length ≤ 900) (hD0 : 0 < dv D) :
    ∃ z, Ev (fun k => regimenref03_Quotient.f k a D) z ∧ dok z ∧ dv z = dv a / dv D ∧ z.length ≤ a.length + 1 := by
  obtain ⟨z, hz, h1, h2, h3, h4⟩ := quot_l0 a D ha hD hlD hla hD0 a.length [] [] (Nat.le_refl _) dok_nil (.inl (by simp)) dok_nil (by simp) (by simp) (by simp [dv]) (by simp [dv])
  refine ⟨z, ?_, h1, h2, ?_⟩
  · refine Ev.congr (fun k => ?_) hz
    unfold regimenref03_Quotient.f
    rw [w64_id (by omega) (by omega)]
  · refine tg_len h4 ?_
    have := dv_lt ha
    have : dv a / dv D ≤ dv a := Int.ediv_le_self _ (dv_nonneg ha)
    omega

theorem odd_ok (q : List Int) (hq : dok q) : regimenref03_Odd.f q = some (decide (dv q % 2 = 1)) := by
  unfold regimenref03_Odd.f
  cases q with
  | nil => simp [dv]
  | cons x l =>
    have hx := hq x List.mem_cons_self
    rw [if_pos (by simp), if_pos (by simp)]
    have e : rd (x :: l) 0 = x := rfl
    rw [e, tmod_pos hx.1]
    congr 1
    rw [Bool.eq_iff_iff, beq_iff_eq, decide_eq_true_iff]
    simp only [dv]
    omega

theorem rounded_t (a D : List Int) (ha : dok a) (hD : dok D) (hlD : D.length ≤ 1000) (hla : a.length ≤ 900) (hD0 : 0 < dv D) :
    ∃ z, Ev (fun k => regimenref03_Rounded.f k a D) z ∧ dok z ∧ dv z = rnd (dv a) (dv D) ∧ z.length ≤ a.length + 2 := by
  obtain ⟨q, hq, dq, vq, lq⟩ := quotient_ok a D ha hD hlD hla hD0
  obtain ⟨p, hp, dp, vp, lp⟩ := times_ok q D dq hD (by omega) (by omega)
  have da : dok (a ++ [0]) := dok_snoc ha (by omega)
  have va : dv (a ++ [0]) = dv a := by rw [dv_snoc]; simp
  obtain ⟨c1, c2, c3⟩ := cut_ex (dv a) (dv D) hD0
  have hpa : dv p + dv a % dv D = dv a := by rw [vp, vq, Int.mul_comm]; omega
  obtain ⟨r, hr, dr, vr, lr⟩ := less_ok (a ++ [0]) p da dp (by simp; omega) (by rw [va]; omega)
  obtain ⟨r2, hr2, dr2, vr2, lr2⟩ := plus_ok r r dr dr 1000 (by simp at lr; omega) (by simp at lr; omega) (by omega)
  have hc := cmp_ok r2 D dr2 hD (by omega) (by omega)
  obtain ⟨q1, hq1, dq1, vq1, lq1⟩ := plus_ok q [1] dq (dok_cons (by omega) dok_nil) (a.length + 1) (by omega) (by simp) (by omega)
  have ho := odd_ok q dq
  have v2 : dv r2 = 2 * (dv a % dv D) := by rw [vr2, vr, va]; omega
  rw [v2] at hc
  rw [vq] at ho
  have vq1 : dv q1 = dv a / dv D + 1 := by rw [vq1, vq]; simp [dv]
  have main : ∀ z, Ev (fun k => if (if 2 * (dv a % dv D) < dv D then (-1 : Int) else if 2 * (dv a % dv D) > dv D then 1 else 0) > 0 then (regimenref02_Plus.f k q ([1] : List Int)).bind fun t419 => some t419 else (if (if 2 * (dv a % dv D) < dv D then (-1 : Int) else if 2 * (dv a % dv D) > dv D then 1 else 0) = 0 then (regimenref03_Odd.f q).bind fun t422 => (if t422 = true then (regimenref02_Plus.f k q ([1] : List Int)).bind fun t426 => some t426 else some q) else some q)) z → Ev (fun k => regimenref03_Rounded.f k a D) z := by
    intro z hz
    unfold regimenref03_Rounded.f
    refine Ev.bind hq ?_
    refine evs rfl ?_
    refine evp (by simp; omega) ?_
    refine evs rfl ?_
    refine evp (by simp; omega) ?_
    refine Ev.bind hp ?_
    refine Ev.bind hr ?_
    refine Ev.bind hr2 ?_
    refine Ev.bind hc ?_
    exact hz
  unfold rnd
  by_cases k1 : 2 * (dv a % dv D) > dv D
  · refine ⟨q1, main q1 ?_, dq1, ?_, by omega⟩
    · refine evp (by rw [if_neg (by omega), if_pos k1]; omega) ?_
      exact Ev.bind hq1 (Ev.now _)
    · rw [if_pos (.inl k1), vq1]
  · by_cases k2 : 2 * (dv a % dv D) = dv D
    · by_cases k3 : dv a / dv D % 2 = 1
      · refine ⟨q1, main q1 ?_, dq1, ?_, by omega⟩
        · refine evn (by rw [if_neg (by omega), if_neg k1]; omega) ?_
          refine evp (by rw [if_neg (by omega), if_neg k1]) ?_
          refine evs ho ?_
          refine evp (by simp [k3]) ?_
          exact Ev.bind hq1 (Ev.now _)
        · rw [if_pos (.inr ⟨k2, k3⟩), vq1]
      · refine ⟨q, main q ?_, dq, ?_, by omega⟩
        · refine evn (by rw [if_neg (by omega), if_neg k1]; omega) ?_
          refine evp (by rw [if_neg (by omega), if_neg k1]) ?_
          refine evs ho ?_
          refine evn (by simp [k3]) ?_
          exact Ev.now _
        · rw [if_neg (by omega), vq, Int.add_zero]
    · refine ⟨q, main q ?_, dq, ?_, by omega⟩
      · refine evn (by rw [if_pos (by omega)]; omega) ?_
        refine evn (by rw [if_pos (by omega)]; omega) ?_
        exact Ev.now _
      · rw [if_neg (by omega), vq, Int.add_zero]
theorem rounded_ok (a D : List Int) (ha : dok a) (hD : dok D) (hlD : D.length ≤ 1000) (hla : a.length ≤ 900) (hD0 : 0 < dv D) :
    ∃ z, Ev (fun k => regimenref03_Rounded.f k a D) z ∧ dok z ∧ dv z = rnd (dv a) (dv D) ∧ z.length ≤ 5000 := by
  obtain ⟨z, h1, h2, h3, h4⟩ := rounded_t a D ha hD hlD hla hD0
  exact ⟨z, h1, h2, h3, by omega⟩
end Go.Proofs.Ytnmmhfpekeeedaa.Num
