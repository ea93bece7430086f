/- The quotient of a number of 128 bits by a word, as math/bits makes it: for every dividend whose high word is below the divisor. -/
import Derived.Test.YtnmmhfpekeeedaaPBx2
import Derived.Test.YtnmmhfpekeeedaaPBx3
import Derived.Test.YtnmmhfpekeeedaaBPairSh
namespace Go.Proofs.Ytnmmhfpekeeedaa.Num
set_option linter.unusedVariables false
set_option linter.unusedSimpArgs false
open Go.RowKit Go.Proofs.Ytnmmhfpekeeedaa.PB Go.Proofs.YtnmmhfpekeeedaaW.PrintWords Go.Proofs.YtnmmhfpekeeedaaW.PrintMore

def lenTab : ByteArray := ⟨#[0, 1, 2, 2, 3, 3, 3, 3, 4, 4, 4, 4, 4, 4, 4, 4, 5, 5, 5, 5, 5, 5, 5, 5, 5, 5, 5, 5, 5, 5, 5, 5, 6, 6, 6, 6, 6, 6, 6, 6, 6, 6, 6, 6, 6, 6, 6, 6, 6, 6, 6, 6, 6, 6, 6, 6, 6, 6, 6, 6, 6, 6, 6, 6, 7, 7, 7, 7, 7, 7, 7, 7, 7, 7, 7, 7, 7, 7, 7, 7, 7, 7, 7, 7, 7, 7, 7, 7, 7, 7, 7, 7, 7, 7, 7, 7, 7, 7, 7, 7, 7, 7, 7, 7, 7, 7, 7, 7, 7, 7, 7, 7, 7, 7, 7, 7, 7, 7, 7, 7, 7, 7, 7, 7, 7, 7, 7, 7, 8, 8, 8, 8, 8, 8, 8, 8, 8, 8, 8, 8, 8, 8, 8, 8, 8, 8, 8, 8, 8, 8, 8, 8, 8, 8, 8, 8, 8, 8, 8, 8, 8, 8, 8, 8, 8, 8, 8, 8, 8, 8, 8, 8, 8, 8, 8, 8, 8, 8, 8, 8, 8, 8, 8, 8, 8, 8, 8, 8, 8, 8, 8, 8, 8, 8, 8, 8, 8, 8, 8, 8, 8, 8, 8, 8, 8, 8, 8, 8, 8, 8, 8, 8, 8, 8, 8, 8, 8, 8, 8, 8, 8, 8, 8, 8, 8, 8, 8, 8, 8, 8, 8, 8, 8, 8, 8, 8, 8, 8, 8, 8, 8, 8, 8, 8, 8, 8, 8, 8, 8, 8, 8, 8, 8, 8, 8, 8]⟩
def lenOK : Bool := (List.range 256).all fun i => decide (0 ≤ bt lenTab i) && decide (bt lenTab i ≤ 8) && decide ((i : Int) < 2 ^ (bt lenTab i).toNat) && (i == 0 || (decide (1 ≤ bt lenTab i) && decide ((2 : Int) ^ ((bt lenTab i).toNat - 1) ≤ i)))
theorem lenOK_true : lenOK = true := by decide +kernel
theorem len_at (x : Int) (h0 : 0 ≤ x) (h1 : x < 256) : ∃ m : Nat, m ≤ 8 ∧ bt lenTab x = m ∧ x < 2 ^ m ∧ (1 ≤ x → 1 ≤ m ∧ 2 ^ (m - 1) ≤ x) := by
  obtain ⟨i, rfl⟩ := Int.eq_ofNat_of_zero_le h0
  have h := List.all_eq_true.1 lenOK_true i (List.mem_range.2 (by omega))
  simp only [Bool.and_eq_true, Bool.or_eq_true, decide_eq_true_eq, beq_iff_eq] at h
  obtain ⟨⟨⟨p1, p2⟩, p3⟩, p4⟩ := h
  refine ⟨(bt lenTab i).toNat, by omega, by omega, p3, fun hx => ?_⟩
  rcases p4 with p4 | p4
  · omega
  · exact ⟨by omega, p4.2⟩

set_option maxRecDepth 100000 in
theorem len64_j0 (x n : Int) (h0 : 0 ≤ x) (h1 : x < 4294967296) (n0 : 0 ≤ n) (n1 : n ≤ 32) : ∃ m : Nat, m ≤ 32 ∧ Ev (fun k => bits_Len64.j0 k x n) (n + m) ∧ x < 2 ^ m ∧ (1 ≤ x → 1 ≤ m ∧ 2 ^ (m - 1) ≤ x) := by
  have e : ∀ (m j : Nat), 1 ≤ m → (2 : Int) ^ (m + j - 1) = 2 ^ (m - 1) * 2 ^ j := by
    intro m j hm
    rw [← Int.pow_add, show m - 1 + j = m + j - 1 by omega]
  have T : ∀ z, bt (⟨#[0, 1, 2, 2, 3, 3, 3, 3, 4, 4, 4, 4, 4, 4, 4, 4, 5, 5, 5, 5, 5, 5, 5, 5, 5, 5, 5, 5, 5, 5, 5, 5, 6, 6, 6, 6, 6, 6, 6, 6, 6, 6, 6, 6, 6, 6, 6, 6, 6, 6, 6, 6, 6, 6, 6, 6, 6, 6, 6, 6, 6, 6, 6, 6, 7, 7, 7, 7, 7, 7, 7, 7, 7, 7, 7, 7, 7, 7, 7, 7, 7, 7, 7, 7, 7, 7, 7, 7, 7, 7, 7, 7, 7, 7, 7, 7, 7, 7, 7, 7, 7, 7, 7, 7, 7, 7, 7, 7, 7, 7, 7, 7, 7, 7, 7, 7, 7, 7, 7, 7, 7, 7, 7, 7, 7, 7, 7, 7, 8, 8, 8, 8, 8, 8, 8, 8, 8, 8, 8, 8, 8, 8, 8, 8, 8, 8, 8, 8, 8, 8, 8, 8, 8, 8, 8, 8, 8, 8, 8, 8, 8, 8, 8, 8, 8, 8, 8, 8, 8, 8, 8, 8, 8, 8, 8, 8, 8, 8, 8, 8, 8, 8, 8, 8, 8, 8, 8, 8, 8, 8, 8, 8, 8, 8, 8, 8, 8, 8, 8, 8, 8, 8, 8, 8, 8, 8, 8, 8, 8, 8, 8, 8, 8, 8, 8, 8, 8, 8, 8, 8, 8, 8, 8, 8, 8, 8, 8, 8, 8, 8, 8, 8, 8, 8, 8, 8, 8, 8, 8, 8, 8, 8, 8, 8, 8, 8, 8, 8, 8, 8, 8, 8, 8, 8, 8, 8]⟩ : ByteArray) z = bt lenTab z := fun _ => rfl
  by_cases c1 : x ≥ 65536
  · by_cases c2 : x / 65536 ≥ 256
    · obtain ⟨m, hm, hb, hx, hy⟩ := len_at (x / 65536 / 256 % 256) (by omega) (by omega)
      have hy := hy (by omega)
      refine ⟨m + 24, by omega, ?_, ?_, fun _ => ⟨by omega, ?_⟩⟩
      · refine Ev.step (f := fun _ => some (n + ((m + 24 : Nat) : Int))) (fun k => ?_) (Ev.now _)
        rw [bits_Len64.j0]
        rw [if_pos c1, if_pos c2, if_pos (by omega), if_pos (by omega), T, hb, w64_id (x := n + 16) (by omega) (by omega), w64_id (x := n + 16 + 8) (by omega) (by omega), w64_id (x := (m : Int)) (by omega) (by omega), w64_id (by omega) (by omega)]
        congr 1
        omega
      · rw [Int.pow_add]; simp only [Int.reducePow]; omega
      · rw [e m 24 hy.1]; simp only [Int.reducePow]; omega
    · obtain ⟨m, hm, hb, hx, hy⟩ := len_at (x / 65536 % 256) (by omega) (by omega)
      have hy := hy (by omega)
      refine ⟨m + 16, by omega, ?_, ?_, fun _ => ⟨by omega, ?_⟩⟩
      · refine Ev.step (f := fun _ => some (n + ((m + 16 : Nat) : Int))) (fun k => ?_) (Ev.now _)
        rw [bits_Len64.j0]
        rw [if_pos c1, if_neg c2, if_pos (by omega), if_pos (by omega), T, hb, w64_id (x := n + 16) (by omega) (by omega), w64_id (x := (m : Int)) (by omega) (by omega), w64_id (by omega) (by omega)]
        congr 1
        omega
      · rw [Int.pow_add]; simp only [Int.reducePow]; omega
      · rw [e m 16 hy.1]; simp only [Int.reducePow]; omega
  · by_cases c2 : x ≥ 256
    · obtain ⟨m, hm, hb, hx, hy⟩ := len_at (x / 256 % 256) (by omega) (by omega)
      have hy := hy (by omega)
      refine ⟨m + 8, by omega, ?_, ?_, fun _ => ⟨by omega, ?_⟩⟩
      · refine Ev.step (f := fun _ => some (n + ((m + 8 : Nat) : Int))) (fun k => ?_) (Ev.now _)
        rw [bits_Len64.j0]
        rw [if_neg c1, if_pos c2, if_pos (by omega), if_pos (by omega), T, hb, w64_id (x := n + 8) (by omega) (by omega), w64_id (x := (m : Int)) (by omega) (by omega), w64_id (by omega) (by omega)]
        congr 1
        omega
      · rw [Int.pow_add]; simp only [Int.reducePow]; omega
      · rw [e m 8 hy.1]; simp only [Int.reducePow]; omega
    · obtain ⟨m, hm, hb, hx, hy⟩ := len_at (x % 256) (by omega) (by omega)
      have ex : x % 256 = x := by omega
      rw [ex] at hb hx hy
      refine ⟨m, by omega, ?_, hx, hy⟩
      refine Ev.step (f := fun _ => some (n + (m : Int))) (fun k => ?_) (Ev.now _)
      rw [bits_Len64.j0]
      rw [if_neg c1, if_neg c2, if_pos (by omega), if_pos (by omega), ex, T, hb, w64_id (x := (m : Int)) (by omega) (by omega), w64_id (by omega) (by omega)]

theorem len64_ok (y : Int) (h0 : 1 ≤ y) (h1 : y < 18446744073709551616) : ∃ m : Nat, m ≤ 64 ∧ Ev (fun k => bits_Len64.f k y) (m : Int) ∧ y < 2 ^ m ∧ 1 ≤ m ∧ 2 ^ (m - 1) ≤ y := by
  by_cases c : y ≥ 4294967296
  · obtain ⟨m, hm, hr, hx, hy⟩ := len64_j0 (y / 4294967296) 32 (by omega) (by omega) (by omega) (by omega)
    have hy := hy (by omega)
    refine ⟨m + 32, by omega, ?_, ?_, by omega, ?_⟩
    · unfold bits_Len64.f
      refine evp c ?_
      rw [show ((m + 32 : Nat) : Int) = 32 + m by omega]
      exact hr
    · rw [Int.pow_add]; simp only [Int.reducePow]; omega
    · rw [show m + 32 - 1 = m - 1 + 32 by omega, Int.pow_add]; simp only [Int.reducePow]; omega
  · obtain ⟨m, hm, hr, hx, hy⟩ := len64_j0 y 0 (by omega) (by omega) (by omega) (by omega)
    have hy := hy (by omega)
    refine ⟨m, by omega, ?_, hx, hy.1, hy.2⟩
    unfold bits_Len64.f
    refine evn c ?_
    rw [Int.zero_add] at hr
    exact hr

/-! ### one digit of the quotient -/
theorem quo_bounds {N y Q : Int} (hy : 0 < y) (hQ : Q = N / y) : Q * y ≤ N ∧ N < Q * y + y := by
  have h1 := Int.mul_ediv_add_emod N y
  have h2 := Int.emod_nonneg N (show y ≠ 0 by omega)
  have h3 := Int.emod_lt_of_pos N hy
  subst hQ
  rw [Int.mul_comm]
  omega
theorem quo_lt {N y Q q : Int} (hy : 0 < y) (hQ : Q * y ≤ N) (h : N < q * y) : Q < q := Int.lt_of_mul_lt_mul_right (by omega) (Int.le_of_lt hy)
theorem quo_le {N y Q q : Int} (hy : 0 < y) (hQ : N < Q * y + y) (h : q * y ≤ N) : q ≤ Q := by
  have : q * y < (Q + 1) * y := by rw [Int.add_mul, Int.one_mul]; omega
  have := Int.lt_of_mul_lt_mul_right this (Int.le_of_lt hy)
  omega
theorem prod_split (q yn1 yn0 y : Int) (hy : y = yn1 * 4294967296 + yn0) : q * y = q * yn1 * 4294967296 + q * yn0 := by
  rw [hy, Int.mul_add, Int.mul_assoc]

theorem div_l0 (y s yn1 yn0 u v un0 Q : Int) (hy : y = yn1 * 4294967296 + yn0) (h1 : 2147483648 ≤ yn1) (h2 : yn1 < 4294967296) (h3 : 0 ≤ yn0) (h4 : yn0 < 4294967296) (hu0 : 0 ≤ u) (hu : u < y) (hv0 : 0 ≤ v) (hv : v < 4294967296) (hQ : Q = (u * 4294967296 + v) / y)
    {r : Int × Int} (H : Ev (fun k => bits_Div64.j2 k y s yn1 yn0 u v un0 Q) r) (d : Nat) :
    ∀ (q rh : Int), (q - Q).toNat = d → Q ≤ q → q ≤ 4294967297 → u = q * yn1 + rh → 0 ≤ rh → rh < 4294967296 → Ev (fun k => bits_Div64.l0 k y s yn1 yn0 u v un0 q rh) r := by
  have hyp : 0 < y := by omega
  obtain ⟨b1, b2⟩ := quo_bounds hyp hQ
  have hQ0 : 0 ≤ Q := by rw [hQ]; exact Int.ediv_nonneg (by omega) (by omega)
  have hQB : Q < 4294967296 := quo_lt (q := 4294967296) hyp b1 (by omega)
  induction d with
  | zero =>
    intro q rh hd hq1 hq2 he hr0 hr1
    have hqQ : q = Q := by omega
    subst hqQ
    have hs := prod_split q yn1 yn0 y hy
    have hp := mul_bd (x := q) (y := yn0) (M := 4294967295) (N := 4294967295) (by omega) (by omega) h3 (by omega)
    refine Ev.step (f := fun k => bits_Div64.j1 k y s yn1 yn0 u v un0 q rh false) (fun k => ?_) ?_
    · simp only [bits_Div64.l0]
      rw [if_neg (by omega), u64_id (x := q * yn0) (by omega) (by omega), u64_id (x := 4294967296 * rh) (by omega) (by omega), u64_id (by omega) (by omega), decide_eq_false (by omega)]
    · refine Ev.step (f := fun k => bits_Div64.j2 k y s yn1 yn0 u v un0 q) (fun k => ?_) H
      simp only [bits_Div64.j1]
      rw [if_neg (by simp)]
  | succ d ih =>
    intro q rh hd hq1 hq2 he hr0 hr1
    have hs := prod_split q yn1 yn0 y hy
    have hs1 : (q - 1) * yn1 = q * yn1 - yn1 := by rw [Int.sub_mul, Int.one_mul]
    have hs2 : (q - 1) * yn0 = q * yn0 - yn0 := by rw [Int.sub_mul, Int.one_mul]
    have hs3 : (q - 1) * y = q * y - y := by rw [Int.sub_mul, Int.one_mul]
    have hp := mul_bd (x := q - 1) (y := yn0) (M := 4294967296) (N := 4294967295) (by omega) (by omega) h3 (by omega)
    have hlt : u * 4294967296 + v < q * y := by
      have : (Q + 1) * y ≤ q * y := Int.mul_le_mul_of_nonneg_right (by omega) (by omega)
      rw [Int.add_mul, Int.one_mul] at this
      omega
    refine Ev.step (f := fun k => bits_Div64.j1 k y s yn1 yn0 u v un0 q rh true) (fun k => ?_) ?_
    · simp only [bits_Div64.l0]
      by_cases c : q ≥ 4294967296
      · rw [if_pos c]
      · rw [if_neg c, u64_id (x := q * yn0) (by omega) (by omega), u64_id (x := 4294967296 * rh) (by omega) (by omega), u64_id (by omega) (by omega), decide_eq_true (by omega)]
    · by_cases c : rh + yn1 ≥ 4294967296
      · have hq : q - 1 = Q := by
          have := quo_le hyp b2 (q := q - 1) (by omega)
          omega
        refine Ev.step (f := fun k => bits_Div64.j2 k y s yn1 yn0 u v un0 (q - 1)) (fun k => ?_) (by rw [hq]; exact H)
        simp only [bits_Div64.j1, if_true]
        rw [u64_id (x := rh + yn1) (by omega) (by omega), if_pos c, u64_id (by omega) (by omega)]
      · refine Ev.step (f := fun k => bits_Div64.l0 k y s yn1 yn0 u v un0 (q - 1) (rh + yn1)) (fun k => ?_) (ih (q - 1) (rh + yn1) (by omega) (by omega) (by omega) (by omega) (by omega) (by omega))
        simp only [bits_Div64.j1, if_true]
        rw [u64_id (x := rh + yn1) (by omega) (by omega), if_neg c, u64_id (by omega) (by omega)]

theorem div_l1 (y s yn1 yn0 u v q1 Q : Int) (hs0 : 0 ≤ s) (hy : y = yn1 * 4294967296 + yn0) (h1 : 2147483648 ≤ yn1) (h2 : yn1 < 4294967296) (h3 : 0 ≤ yn0) (h4 : yn0 < 4294967296) (hu0 : 0 ≤ u) (hu : u < y) (hv0 : 0 ≤ v) (hv : v < 4294967296) (hQ : Q = (u * 4294967296 + v) / y) (d : Nat) :
    ∀ (q rh : Int), (q - Q).toNat = d → Q ≤ q → q ≤ 4294967297 → u = q * yn1 + rh → 0 ≤ rh → rh < 4294967296 →
      Ev (fun k => bits_Div64.l1 k y s yn1 yn0 v q1 rh u q) (IntKind.u64.wrap (IntKind.u64.wrap (q1 * 4294967296) + Q), shr .u64 (IntKind.u64.wrap (IntKind.u64.wrap (IntKind.u64.wrap (u * 4294967296) + v) - IntKind.u64.wrap (Q * y))) s) := by
  have hyp : 0 < y := by omega
  obtain ⟨b1, b2⟩ := quo_bounds hyp hQ
  have hQ0 : 0 ≤ Q := by rw [hQ]; exact Int.ediv_nonneg (by omega) (by omega)
  have hQB : Q < 4294967296 := quo_lt (q := 4294967296) hyp b1 (by omega)
  induction d with
  | zero =>
    intro q rh hd hq1 hq2 he hr0 hr1
    have hqQ : q = Q := by omega
    subst hqQ
    have hs := prod_split q yn1 yn0 y hy
    have hp := mul_bd (x := q) (y := yn0) (M := 4294967295) (N := 4294967295) (by omega) (by omega) h3 (by omega)
    refine Ev.step (f := fun k => bits_Div64.j4 k y s yn1 yn0 v q1 rh u q false) (fun k => ?_) ?_
    · simp only [bits_Div64.l1]
      rw [if_neg (by omega), u64_id (x := q * yn0) (by omega) (by omega), u64_id (x := 4294967296 * rh) (by omega) (by omega), u64_id (by omega) (by omega), decide_eq_false (by omega)]
    · refine Ev.step (f := fun _ => some _) (fun k => ?_) (Ev.now _)
      simp only [bits_Div64.j4]
      rw [if_neg (by simp), if_pos hs0]
  | succ d ih =>
    intro q rh hd hq1 hq2 he hr0 hr1
    have hs := prod_split q yn1 yn0 y hy
    have hs1 : (q - 1) * yn1 = q * yn1 - yn1 := by rw [Int.sub_mul, Int.one_mul]
    have hs2 : (q - 1) * yn0 = q * yn0 - yn0 := by rw [Int.sub_mul, Int.one_mul]
    have hs3 : (q - 1) * y = q * y - y := by rw [Int.sub_mul, Int.one_mul]
    have hp := mul_bd (x := q - 1) (y := yn0) (M := 4294967296) (N := 4294967295) (by omega) (by omega) h3 (by omega)
    have hlt : u * 4294967296 + v < q * y := by
      have : (Q + 1) * y ≤ q * y := Int.mul_le_mul_of_nonneg_right (by omega) (by omega)
      rw [Int.add_mul, Int.one_mul] at this
      omega
    refine Ev.step (f := fun k => bits_Div64.j4 k y s yn1 yn0 v q1 rh u q true) (fun k => ?_) ?_
    · simp only [bits_Div64.l1]
      by_cases c : q ≥ 4294967296
      · rw [if_pos c]
      · rw [if_neg c, u64_id (x := q * yn0) (by omega) (by omega), u64_id (x := 4294967296 * rh) (by omega) (by omega), u64_id (by omega) (by omega), decide_eq_true (by omega)]
    · by_cases c : rh + yn1 ≥ 4294967296
      · have hq : q - 1 = Q := by
          have := quo_le hyp b2 (q := q - 1) (by omega)
          omega
        refine Ev.step (f := fun _ => some _) (fun k => ?_) (Ev.now _)
        simp only [bits_Div64.j4, if_true]
        rw [u64_id (x := rh + yn1) (by omega) (by omega), if_pos c, if_pos hs0, u64_id (x := q - 1) (by omega) (by omega), hq]
      · refine Ev.step (f := fun k => bits_Div64.l1 k y s yn1 yn0 v q1 (rh + yn1) u (q - 1)) (fun k => ?_) (ih (q - 1) (rh + yn1) (by omega) (by omega) (by omega) (by omega) (by omega) (by omega))
        simp only [bits_Div64.j4, if_true]
        rw [u64_id (x := rh + yn1) (by omega) (by omega), if_neg c, u64_id (x := q - 1) (by omega) (by omega)]

theorem div_guess {y yn1 yn0 u v Q : Int} (hy : y = yn1 * 4294967296 + yn0) (h1 : 2147483648 ≤ yn1) (h2 : yn1 < 4294967296) (h3 : 0 ≤ yn0) (h4 : yn0 < 4294967296) (hu0 : 0 ≤ u) (hu : u < y) (hv0 : 0 ≤ v) (hv : v < 4294967296) (hQ : Q = (u * 4294967296 + v) / y) :
    Q ≤ u / yn1 ∧ u / yn1 ≤ 4294967297 ∧ u / yn1 * yn1 ≤ u ∧ u < u / yn1 * yn1 + yn1 ∧ 0 ≤ u / yn1 := by
  have hyp : 0 < y := by omega
  obtain ⟨b1, b2⟩ := quo_bounds hyp hQ
  have hQ0 : 0 ≤ Q := by rw [hQ]; exact Int.ediv_nonneg (by omega) (by omega)
  obtain ⟨c1, c2⟩ := quo_bounds (N := u) (y := yn1) (by omega) rfl
  have hs := prod_split Q yn1 yn0 y hy
  have hp : 0 ≤ Q * yn0 := Int.mul_nonneg hQ0 h3
  refine ⟨Int.le_ediv_of_mul_le (by omega) (by omega), ?_, c1, c2, Int.ediv_nonneg hu0 (by omega)⟩
  have : u / yn1 < 4294967298 := Int.ediv_lt_of_lt_mul (by omega) (by omega)
  omega

theorem div64_norm (Y s U w : Int) (hs0 : 0 ≤ s) (hY1 : 9223372036854775808 ≤ Y) (hY2 : Y < 18446744073709551616) (hU0 : 0 ≤ U) (hU : U < Y) (hw0 : 0 ≤ w) (hw : w < 18446744073709551616) :
    ∃ Qt R : Int, Ev (fun k => bits_Div64.l0 k Y s (Y / 4294967296) (Y % 4294967296) U (w / 4294967296) (w % 4294967296) (U / (Y / 4294967296)) (U - U / (Y / 4294967296) * (Y / 4294967296))) (Qt, shr .u64 R s) ∧ U * 18446744073709551616 + w = Qt * Y + R ∧ 0 ≤ R ∧ R < Y ∧ 0 ≤ Qt ∧ Qt < 18446744073709551616 := by
  have hy : Y = Y / 4294967296 * 4294967296 + Y % 4294967296 := by omega
  have a1 : 2147483648 ≤ Y / 4294967296 := by omega
  have a2 : Y / 4294967296 < 4294967296 := by omega
  have a3 : 0 ≤ Y % 4294967296 := by omega
  have a4 : Y % 4294967296 < 4294967296 := by omega
  have a5 : 0 ≤ w / 4294967296 := by omega
  have a6 : w / 4294967296 < 4294967296 := by omega
  have a7 : 0 ≤ w % 4294967296 := by omega
  have a8 : w % 4294967296 < 4294967296 := by omega
  have hw3 : w = w / 4294967296 * 4294967296 + w % 4294967296 := by omega
  generalize Y / 4294967296 = yn1 at *
  generalize Y % 4294967296 = yn0 at *
  generalize w / 4294967296 = un1 at *
  generalize w % 4294967296 = un0 at *
  obtain ⟨Q1, hQ1⟩ : ∃ Q1, Q1 = (U * 4294967296 + un1) / Y := ⟨_, rfl⟩
  have hYp : 0 < Y := by omega
  obtain ⟨b1, b2⟩ := quo_bounds hYp hQ1
  have hQ10 : 0 ≤ Q1 := by rw [hQ1]; exact Int.ediv_nonneg (by omega) (by omega)
  have hQ1B : Q1 < 4294967296 := quo_lt (q := 4294967296) hYp b1 (by omega)
  obtain ⟨V, hV⟩ : ∃ V, V = U * 4294967296 + un1 - Q1 * Y := ⟨_, rfl⟩
  obtain ⟨Q0, hQ0⟩ : ∃ Q0, Q0 = (V * 4294967296 + un0) / Y := ⟨_, rfl⟩
  obtain ⟨d1, d2⟩ := quo_bounds hYp hQ0
  have hQ00 : 0 ≤ Q0 := by rw [hQ0]; exact Int.ediv_nonneg (by omega) (by omega)
  have hQ0B : Q0 < 4294967296 := quo_lt (q := 4294967296) hYp d1 (by omega)
  obtain ⟨g1, g2, g3, g4, g5⟩ := div_guess hy a1 a2 a3 a4 hU0 hU a5 a6 hQ1
  obtain ⟨f1, f2, f3, f4, f5⟩ := div_guess hy a1 a2 a3 a4 (u := V) (by omega) (by omega) a7 a8 hQ0
  have hl1 := div_l1 Y s yn1 yn0 V un0 Q1 Q0 hs0 hy a1 a2 a3 a4 (by omega) (by omega) a7 a8 hQ0 _ (V / yn1) (V - V / yn1 * yn1) rfl f1 f2 (by omega) (by omega) (by omega)
  have eq : (Q1 * 4294967296 + Q0) * Y = Q1 * Y * 4294967296 + Q0 * Y := by rw [Int.add_mul, Int.mul_right_comm]
  refine ⟨Q1 * 4294967296 + Q0, V * 4294967296 + un0 - Q0 * Y, ?_, by omega, by omega, by omega, by omega, by omega⟩
  refine div_l0 Y s yn1 yn0 U un1 un0 Q1 hy a1 a2 a3 a4 hU0 hU a5 a6 hQ1 ?_ _ (U / yn1) (U - U / yn1 * yn1) rfl g1 g2 (by omega) (by omega) (by omega)
  refine Ev.step (f := fun k => bits_Div64.l1 k Y s yn1 yn0 un0 Q1 (V - V / yn1 * yn1) V (V / yn1)) (fun k => ?_) ?_
  · have eV : IntKind.u64.wrap (IntKind.u64.wrap (IntKind.u64.wrap (U * 4294967296) + un1) - IntKind.u64.wrap (Q1 * Y)) = V := by
      simp only [u64_mod]
      omega
    simp only [bits_Div64.j2]
    rw [if_neg (by omega), eV, tdiv_pos (by omega), u64_id (x := V / yn1) (by omega) (by omega), u64_id (x := V / yn1 * yn1) (Int.mul_nonneg f5 (by omega)) (by omega), u64_id (by omega) (by omega)]
  · have e1 : IntKind.u64.wrap (IntKind.u64.wrap (Q1 * 4294967296) + Q0) = Q1 * 4294967296 + Q0 := by
      simp only [u64_mod]
      omega
    have e2 : IntKind.u64.wrap (IntKind.u64.wrap (IntKind.u64.wrap (V * 4294967296) + un0) - IntKind.u64.wrap (Q0 * Y)) = V * 4294967296 + un0 - Q0 * Y := by
      simp only [u64_mod]
      omega
    rw [e1, e2] at hl1
    exact hl1

theorem div64_ok {hi lo y : Int} (h0 : 0 ≤ hi) (h1 : hi < y) (h2 : y < 18446744073709551616) (h3 : 0 ≤ lo) (h4 : lo < 18446744073709551616) :
    Ev (fun k => bits_Div64.f k hi lo y) ((lo + 18446744073709551616 * hi) / y, (lo + 18446744073709551616 * hi) % y) := by
  unfold bits_Div64.f
  refine evn (by omega) ?_
  refine evn (by omega) ?_
  by_cases c : hi = 0
  · subst c
    refine evp rfl ?_
    refine Ev.congr (fun k => ?_) (Ev.now _)
    have b : lo / y ≤ lo := Int.ediv_le_self _ h3
    have b0 : 0 ≤ lo / y := Int.ediv_nonneg h3 (by omega)
    rw [tdiv_pos h3, tmod_pos h3, u64_id b0 (by omega)]
    simp
  · refine evn c ?_
    obtain ⟨m, hm, hlen, hm1, hm2, hm3⟩ := len64_ok y (by omega) h2
    have hlz : Ev (fun k => bits_LeadingZeros64.f k y) (((64 - m : Nat) : Int)) := by
      unfold bits_LeadingZeros64.f
      refine Ev.bind hlen ?_
      refine Ev.congr (fun k => ?_) (Ev.now _)
      rw [w64_id (by omega) (by omega)]
      congr 1
      omega
    refine Ev.bind hlz ?_
    have hk : 64 - m ≤ 64 := by omega
    have hPQ := p2_split (64 - m) hk
    rw [show 64 - (64 - m) = m by omega] at hPQ
    have hP := p2_pos (64 - m)
    have hQ := p2_pos m
    have hmm := p2_pred hm2
    rw [wrap_nat (by omega)]
    refine evp (by omega) ?_
    have hw64 : IntKind.u64.wrap (64 - ((64 - m : Nat) : Int)) = (m : Int) := by
      rw [u64_id (by omega) (by omega)]
      omega
    rw [hw64, shl64 hk, shl64 hk, shl64 hk, shr64 (k := m) (by omega)]
    refine evp (by omega) ?_
    have hj := u64_join (64 - m) (x := (hi * 2 ^ (64 - m)) % 18446744073709551616) (y := lo / 2 ^ m)
    have hsh : ∀ R : Int, shr .u64 R ((64 - m : Nat) : Int) = R / 2 ^ (64 - m) := fun R => shr64 hk
    have hs0 : 0 ≤ ((64 - m : Nat) : Int) := by omega
    clear hlz hlen hw64
    generalize ((64 - m : Nat) : Int) = s at *
    generalize hPe : (2 : Int) ^ (64 - m) = P at *
    generalize hQe : (2 : Int) ^ m = Q at *
    have hyP1 : y * P + P ≤ 18446744073709551616 := by
      have : (y + 1) * P ≤ Q * P := Int.mul_le_mul_of_nonneg_right (by omega) (by omega)
      rw [Int.add_mul, Int.one_mul, Int.mul_comm Q P, hPQ] at this
      exact this
    have hyP2 : 9223372036854775808 ≤ y * P := by
      have : 2 ^ (m - 1) * P ≤ y * P := Int.mul_le_mul_of_nonneg_right hm3 (by omega)
      have e : 2 ^ (m - 1) * P * 2 = 18446744073709551616 := by rw [Int.mul_right_comm, ← hmm, Int.mul_comm Q P, hPQ]
      omega
    have hhP0 : 0 ≤ hi * P := Int.mul_nonneg h0 (by omega)
    have hhP : hi * P + P ≤ y * P := by
      have : (hi + 1) * P ≤ y * P := Int.mul_le_mul_of_nonneg_right (by omega) (by omega)
      rw [Int.add_mul, Int.one_mul] at this
      exact this
    obtain ⟨e1, r0, r1⟩ := cut_ex lo Q hQ
    have u0 : 0 ≤ lo / Q := Int.ediv_nonneg h3 (by omega)
    have u1 : lo / Q < P := by
      apply Int.ediv_lt_of_lt_mul hQ
      rw [hPQ]; exact h4
    have fP : lo * P = 18446744073709551616 * (lo / Q) + lo % Q * P := by
      have : lo * P = (Q * (lo / Q) + lo % Q) * P := by rw [← e1]
      rw [this, Int.add_mul, Int.mul_right_comm, Int.mul_comm Q P, hPQ]
    have z2 : 0 ≤ lo % Q * P := Int.mul_nonneg r0 (by omega)
    have b2 : lo % Q * P + P ≤ 18446744073709551616 := by
      have : (lo % Q + 1) * P ≤ Q * P := Int.mul_le_mul_of_nonneg_right (by omega) (by omega)
      rw [Int.add_mul, Int.one_mul, Int.mul_comm Q P, hPQ] at this
      exact this
    have m1 : (hi * P) % 18446744073709551616 = hi * P := Int.emod_eq_of_lt hhP0 (by omega)
    have m2 : (lo * P) % 18446744073709551616 = lo % Q * P := (div_uniq fP z2 (by omega)).2
    have m3 : (y * P) % 18446744073709551616 = y * P := Int.emod_eq_of_lt (by omega) (by omega)
    rw [m1] at hj
    rw [m1, m2, m3, hj hhP0 (Int.mul_emod_left _ _) (by omega) u0 u1 (Int.lt_of_le_of_lt (Int.ediv_le_self _ h3) h4)]
    have eN : (lo + 18446744073709551616 * hi) * P = (hi * P + lo / Q) * 18446744073709551616 + lo % Q * P := by
      rw [Int.add_mul, fP, Int.mul_assoc 18446744073709551616 hi]
      omega
    clear hj m1 m2 m3 hPe hQe
    obtain ⟨Qt, R, hev, hN, hR0, hR1, hq0, hq1⟩ := div64_norm (y * P) s (hi * P + lo / Q) (lo % Q * P) hs0 hyP2 (by omega) (by omega) (by omega) z2 (by omega)
    have hg := div_guess (y := y * P) (yn1 := y * P / 4294967296) (yn0 := y * P % 4294967296) (u := hi * P + lo / Q) (v := 0) (by omega) (by omega) (by omega) (by omega) (by omega) (by omega) (by omega) (by omega) (by omega) rfl
    obtain ⟨_, g2, g3, g4, g5⟩ := hg
    refine evn (by omega) ?_
    have hNy : (lo + 18446744073709551616 * hi - Qt * y) * P = R := by
      rw [Int.sub_mul, eN, hN, Int.mul_assoc Qt y P]
      omega
    have t0 : 0 ≤ lo + 18446744073709551616 * hi - Qt * y := by
      by_cases h : lo + 18446744073709551616 * hi - Qt * y < 0
      · have := Int.mul_neg_of_neg_of_pos h hP
        omega
      · omega
    have t1 : lo + 18446744073709551616 * hi - Qt * y < y := by
      apply Int.lt_of_mul_lt_mul_right (a := P)
      · rw [hNy]; exact hR1
      · omega
    obtain ⟨q1, q2⟩ := div_uniq (a := lo + 18446744073709551616 * hi) (P := y) (q := Qt) (r := lo + 18446744073709551616 * hi - Qt * y) (by rw [Int.mul_comm y]; omega) t0 t1
    rw [q1, q2]
    rw [hsh, ← hNy, Int.mul_ediv_cancel _ (by omega)] at hev
    rw [u64_lo32 (x := y * P) (by omega) (by omega), u64_lo32 (x := lo % Q * P) z2 (by omega), tdiv_pos (a := hi * P + lo / Q) (by omega), u64_id (x := (hi * P + lo / Q) / (y * P / 4294967296)) g5 (by omega), u64_id (x := (hi * P + lo / Q) / (y * P / 4294967296) * (y * P / 4294967296)) (Int.mul_nonneg g5 (by omega)) (by omega), u64_id (by omega) (by omega)]
    exact hev
end Go.Proofs.Ytnmmhfpekeeedaa.Num
