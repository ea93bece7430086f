/- What the reference's functions on digits (layer 2) come to: sums, products, differences, comparisons. -/
import Derived.Test.YtnmmhfpekeeedaaPBx4
import Derived.Test.YtnmmhfpekeeedaaPBx5
import Derived.Test.YtnmmhfpekeeedaaPBx6
import Derived.Test.YtnmmhfpekeeedaaBDigits
namespace Go.Proofs.Ytnmmhfpekeeedaa.Num
set_option linter.unusedVariables false
set_option linter.unusedSimpArgs false
open Go.RowKit Go.Proofs.Ytnmmhfpekeeedaa.PB Go.Proofs.YtnmmhfpekeeedaaW.PrintWords

theorem mul_bd {x y M N : Int} (hx0 : 0 ≤ x) (hx : x ≤ M) (hy0 : 0 ≤ y) (hy : y ≤ N) : 0 ≤ x * y ∧ x * y ≤ M * N :=
  ⟨Int.mul_nonneg hx0 hy0, Int.mul_le_mul hx hy hy0 (by omega)⟩

theorem digit_at (l : List Int) (i : Nat) : regimenref02_digit.f l (i : Int) = some (l.getD i 0) := by
  unfold regimenref02_digit.f
  by_cases h : (i : Int) < (l.length : Int)
  · rw [if_pos h, if_pos (by omega), rd_nat]
  · rw [if_neg h, List.getD_eq_getElem?_getD, List.getElem?_eq_none (by omega)]
    rfl
theorem getD_out (l : List Int) (i : Nat) (h : l.length ≤ i) : l.getD i 0 = 0 := by
  rw [List.getD_eq_getElem?_getD, List.getElem?_eq_none h]
  rfl

theorem word_ok (u : Int) (h0 : 0 ≤ u) (h1 : u < 18446744073709551616) : ∃ l, regimenref02_Word.f u = some l ∧ dok l ∧ dv l = u ∧ l.length = 4 := by
  have e1 := tmod_pos (b := 65536) h0
  have e2 := tdiv_pos (b := 65536) h0
  have e3 := tdiv_pos (b := 4294967296) h0
  have e4 := tdiv_pos (b := 281474976710656) h0
  have w2 : IntKind.u64.wrap (u / 65536) = u / 65536 := u64_id (by omega) (by omega)
  have w3 : IntKind.u64.wrap (u / 4294967296) = u / 4294967296 := u64_id (by omega) (by omega)
  have w4 : IntKind.u64.wrap (u / 281474976710656) = u / 281474976710656 := u64_id (by omega) (by omega)
  refine ⟨[u % 65536, u / 65536 % 65536, u / 4294967296 % 65536, u / 281474976710656], ?_, ?_, ?_, rfl⟩
  · unfold regimenref02_Word.f
    rw [e1, e2, e3, e4, w2, w3, w4, tmod_pos (by omega), tmod_pos (by omega)]
  · exact dok_cons (by omega) (dok_cons (by omega) (dok_cons (by omega) (dok_cons (by omega) dok_nil)))
  · simp only [dv]
    omega

/-! ### the sum -/
theorem plus_step {c d p q P x y n m r : Int} (h : c + P * d = p + q) (hn : n = x + y + d) (hm : n = 65536 * r + m) : c + P * m + P * 65536 * r = p + P * x + (q + P * y) := by
  have e : P * n = P * (65536 * r) + P * m := by rw [hm, Int.mul_add]
  have e2 : P * n = P * x + P * y + P * d := by rw [hn, Int.mul_add, Int.mul_add]
  rw [Int.mul_assoc]
  omega

theorem plus_loop (a b : List Int) (ha : dok a) (hb : dok b) (M : Nat) (hla : a.length ≤ M) (hlb : b.length ≤ M) (hM : M < 4294967296) (d : Nat) :
    ∀ (i : Nat) (out : List Int) (carry : Int), M + 2 - i = d → out.length = i → i ≤ M + 1 → dok out → 0 ≤ carry → carry ≤ 1 → (M < i → carry = 0) → (M < i → 65536 ^ M ≤ dv out) →
      dv out + 65536 ^ i * carry = dv (a.take i) + dv (b.take i) →
      ∃ r, Ev (fun k => regimenref02_Plus.l0 k a b out carry (i : Int)) r ∧ dok r ∧ dv r = dv a + dv b ∧ r.length ≤ M + 1 ∧ (M < r.length → 65536 ^ M ≤ dv r) := by
  induction d with
  | zero => intro i out carry hd hlen hi; omega
  | succ d ih =>
  intro i out carry hd hlen hi hout hc0 hc1 hM2 hM3 hv
  by_cases hgo : i < a.length ∨ i < b.length ∨ carry > 0
  · have h1 := dok_getD ha i
    have h2 := dok_getD hb i
    have hz1 : M < i + 1 → a.getD i 0 = 0 := fun h => getD_out a i (by omega)
    have hz2 : M < i + 1 → b.getD i 0 = 0 := fun h => getD_out b i (by omega)
    generalize hA : a.getD i 0 = A at h1 hz1
    generalize hB : b.getD i 0 = B at h2 hz2
    obtain ⟨r, hr, p⟩ := ih (i + 1) (out ++ [(A + B + carry) % 65536]) ((A + B + carry) / 65536) (by omega) (by simp [hlen]) (by omega) (dok_snoc hout (by omega)) (by omega) (by omega)
      (fun h => by have := hz1 h; have := hz2 h; omega) (fun h => by
        have e1 := hz1 h
        have e2 := hz2 h
        have e3 := hM2
        have hi : i = M := by omega
        have e4 : carry = 1 := by omega
        rw [dv_snoc, hlen, hi, e1, e2, e4]
        have := dv_nonneg hout
        have e5 : ((0 : Int) + 0 + 1) % 65536 = 1 := by decide
        rw [e5, Int.mul_one]
        omega) (by
        rw [dv_snoc, hlen, dv_take_succ, dv_take_succ, Int.pow_succ, hA, hB]
        exact plus_step hv rfl (by omega))
    refine ⟨r, ?_, p⟩
    refine Ev.step (f := fun k => regimenref02_Plus.j1 k a b out carry (i : Int) true) ?_ ?_
    · intro k
      simp only [regimenref02_Plus.l0]
      by_cases c1 : (i : Int) < (a.length : Int)
      · rw [if_pos c1]
      · rw [if_neg c1]
        by_cases c2 : (i : Int) < (b.length : Int)
        · rw [if_pos c2]
        · rw [if_neg c2, decide_eq_true (by omega)]
    · refine Ev.step (f := fun k => regimenref02_Plus.l0 k a b (out ++ [(A + B + carry) % 65536]) ((A + B + carry) / 65536) ((i + 1 : Nat) : Int)) ?_ hr
      intro k
      simp only [regimenref02_Plus.j1, if_true, digit_at, Option.bind_some, hA, hB]
      rw [if_pos (by omega), u64_id (x := A + B) (by omega) (by omega), u64_id (x := A + B + carry) (by omega) (by omega), tmod_pos (by omega), tdiv_pos (by omega), u64_id (x := (A + B + carry) / 65536) (by omega) (by omega), w64_succ (by omega)]
  · refine ⟨out, ?_, hout, ?_, by omega, by rw [hlen]; exact hM3⟩
    · refine Ev.step (f := fun k => regimenref02_Plus.j1 k a b out carry (i : Int) false) ?_ ?_
      · intro k
        simp only [regimenref02_Plus.l0]
        rw [if_neg (by omega), if_neg (by omega), decide_eq_false (by omega)]
      · exact Ev.step (f := fun _ => some out) (fun k => by simp [regimenref02_Plus.j1]) (Ev.now _)
    · have : carry = 0 := by omega
      rw [this, dv_take_all a i (by omega), dv_take_all b i (by omega)] at hv
      omega

theorem plus_t (a b : List Int) (ha : dok a) (hb : dok b) (M : Nat) (hla : a.length ≤ M) (hlb : b.length ≤ M) (hM : M < 4294967296) :
    ∃ r, Ev (fun k => regimenref02_Plus.f k a b) r ∧ dok r ∧ dv r = dv a + dv b ∧ r.length ≤ M + 1 ∧ (M < r.length → 65536 ^ M ≤ dv r) := by
  have := plus_loop a b ha hb M hla hlb hM (M + 2) 0 [] 0 (by omega) rfl (by omega) dok_nil (by omega) (by omega) (by omega) (by omega) (by simp [dv])
  exact this
theorem plus_ok (a b : List Int) (ha : dok a) (hb : dok b) (M : Nat) (hla : a.length ≤ M) (hlb : b.length ≤ M) (hM : M < 4294967296) :
    ∃ r, Ev (fun k => regimenref02_Plus.f k a b) r ∧ dok r ∧ dv r = dv a + dv b ∧ r.length ≤ M + 1 := by
  obtain ⟨r, h1, h2, h3, h4, _⟩ := plus_t a b ha hb M hla hlb hM
  exact ⟨r, h1, h2, h3, h4⟩
/-- A number of one digit, or whose highest digit is not 0. -/
def tg (l : List Int) : Prop := l.length ≤ 1 ∨ 65536 ^ (l.length - 1) ≤ dv l
theorem p16_mono {m n : Nat} (h : m ≤ n) : (65536 : Int) ^ m ≤ 65536 ^ n := by
  obtain ⟨d, rfl⟩ := Nat.exists_eq_add_of_le h
  rw [Int.pow_add]
  have h1 := pow_pos' m
  have h2 := pow_pos' d
  have := Int.mul_le_mul_of_nonneg_left (show (1 : Int) ≤ 65536 ^ d from h2) (Int.le_of_lt h1)
  omega
theorem tg_plus (a b : List Int) (ha : dok a) (hb : dok b) (ta : tg a) (tb : tg b) (hla : a.length < 4000000000) (hlb : b.length < 4000000000) (N : Nat) (hN1 : a.length ≤ N) (hN2 : b.length ≤ N) :
    ∃ r, Ev (fun k => regimenref02_Plus.f k a b) r ∧ dok r ∧ dv r = dv a + dv b ∧ r.length ≤ N + 1 ∧ tg r := by
  obtain ⟨r, h1, h2, h3, h4, h5⟩ := plus_t a b ha hb (max a.length b.length) (by omega) (by omega) (by omega)
  refine ⟨r, h1, h2, h3, by omega, ?_⟩
  have na := dv_nonneg ha
  have nb := dv_nonneg hb
  by_cases c : max a.length b.length < r.length
  · right
    have := h5 c
    rwa [show r.length - 1 = max a.length b.length from by omega]
  · by_cases c1 : r.length ≤ 1
    · exact .inl c1
    · right
      by_cases c2 : a.length ≤ b.length
      · rcases tb with t | t
        · omega
        · have := p16_mono (m := r.length - 1) (n := b.length - 1) (by omega)
          omega
      · rcases ta with t | t
        · omega
        · have := p16_mono (m := r.length - 1) (n := a.length - 1) (by omega)
          omega
theorem tg_len {l : List Int} (h : tg l) {n : Nat} (hv : dv l < 65536 ^ n) : l.length ≤ n + 1 := by
  rcases h with h | h
  · omega
  · rcases Nat.lt_or_ge n (l.length - 1) with c | c
    · have := p16_mono (m := n) (n := l.length - 1) (by omega)
      omega
    · omega

/-! ### the difference -/
theorem less_step {c d p q P x y n m r : Int} (h : c - P * d = p - q) (hn : n = 65536 + x - y - d) (hm : n = 65536 * r + m) : c + P * m - P * 65536 * (1 - r) = p + P * x - (q + P * y) := by
  have e : P * n = P * (65536 * r) + P * m := by rw [hm, Int.mul_add]
  have e2 : P * n = P * 65536 + P * x - P * y - P * d := by rw [hn, Int.mul_sub, Int.mul_sub, Int.mul_add]
  rw [Int.mul_sub, Int.mul_assoc, Int.mul_assoc]
  omega

theorem less_loop (a b : List Int) (ha : dok a) (hb : dok b) (hla : a.length < 4294967296) (d : Nat) :
    ∀ (i : Nat) (out : List Int) (bor : Int), a.length - i = d → out.length = i → i ≤ a.length → dok out → 0 ≤ bor → bor ≤ 1 →
      dv out - 65536 ^ i * bor = dv (a.take i) - dv (b.take i) →
      ∃ r c, Ev (fun k => regimenref02_Less.l0 k a b out bor (i : Int)) r ∧ dok r ∧ 0 ≤ c ∧ c ≤ 1 ∧ dv r - 65536 ^ a.length * c = dv a - dv (b.take a.length) ∧ r.length = a.length := by
  induction d with
  | zero =>
    intro i out bor hd hlen hi hout h0 h1 hv
    have : i = a.length := by omega
    subst this
    refine ⟨out, bor, ?_, hout, h0, h1, ?_, hlen⟩
    · refine Ev.step (f := fun _ => some out) (fun k => ?_) (Ev.now _)
      simp only [regimenref02_Less.l0]
      rw [if_neg (by omega)]
    · rw [dv_take_all a a.length (Nat.le_refl _)] at hv
      exact hv
  | succ d ih =>
    intro i out bor hd hlen hi hout h0 h1 hv
    have h2 := dok_getD ha i
    have h3 := dok_getD hb i
    generalize hA : a.getD i 0 = A at h2
    generalize hB : b.getD i 0 = B at h3
    obtain ⟨r, c, hr, p⟩ := ih (i + 1) (out ++ [(65536 + A - B - bor) % 65536]) (1 - (65536 + A - B - bor) / 65536) (by omega) (by simp [hlen]) (by omega) (dok_snoc hout (by omega)) (by omega) (by omega) (by
        rw [dv_snoc, hlen, dv_take_succ, dv_take_succ, Int.pow_succ, hA, hB]
        exact less_step hv rfl (by omega))
    refine ⟨r, c, ?_, p⟩
    refine Ev.step (f := fun k => regimenref02_Less.l0 k a b (out ++ [(65536 + A - B - bor) % 65536]) (1 - (65536 + A - B - bor) / 65536) ((i + 1 : Nat) : Int)) ?_ hr
    intro k
    simp only [regimenref02_Less.l0]
    rw [if_pos (by omega), if_pos (by omega), digit_at]
    simp only [Option.bind_some, rd_nat, hA, hB]
    rw [if_pos (by omega), u64_id (x := 65536 + A) (by omega) (by omega), u64_id (x := 65536 + A - B) (by omega) (by omega), u64_id (x := 65536 + A - B - bor) (by omega) (by omega), tmod_pos (by omega), tdiv_pos (by omega), u64_id (x := (65536 + A - B - bor) / 65536) (by omega) (by omega), u64_id (x := 1 - (65536 + A - B - bor) / 65536) (by omega) (by omega), w64_succ (by omega)]

theorem less_ok (a b : List Int) (ha : dok a) (hb : dok b) (hla : a.length < 4294967296) (hle : dv b ≤ dv a) :
    ∃ r, Ev (fun k => regimenref02_Less.f k a b) r ∧ dok r ∧ dv r = dv a - dv b ∧ r.length = a.length := by
  obtain ⟨r, c, hr, dr, c0, c1, hv, hl⟩ := less_loop a b ha hb hla a.length 0 [] 0 (by omega) rfl (by omega) dok_nil (by omega) (by omega) (by simp [dv])
  refine ⟨r, hr, dr, ?_, hl⟩
  have hb2 : dv (b.take a.length) = dv b := by
    by_cases hl2 : b.length ≤ a.length
    · exact dv_take_all b _ hl2
    · have h1 := dv_split b a.length (by omega)
      have h2 := dv_lt ha
      have h3 := dv_take_lt hb a.length
      have h4 : 0 ≤ dv (b.drop a.length) := dv_nonneg (fun y hy => hb y (List.mem_of_mem_drop hy))
      have h5 : dv (b.drop a.length) = 0 := by
        by_cases h6 : 1 ≤ dv (b.drop a.length)
        · have := Int.mul_le_mul_of_nonneg_left h6 (Int.le_of_lt (pow_pos' a.length))
          omega
        · omega
      rw [h5] at h1
      omega
  have h7 := dv_lt dr
  have h8 := dv_lt ha
  have h9 := dv_nonneg hb
  have hc : c = 0 := by
    by_cases h : c = 1
    · rw [hl] at h7
      rw [h, hb2] at hv
      omega
    · omega
  rw [hc, hb2] at hv
  omega

/-! ### how numbers compare -/
theorem cmp_loop (a b : List Int) (ha : dok a) (hb : dok b) (d : Nat) : ∀ (i : Int), i + 1 = d → i < 4294967296 → dv a - dv b = dv (a.take d) - dv (b.take d) →
    Ev (fun k => regimenref02_Cmp.l0 k a b i) (if dv a < dv b then -1 else if dv a > dv b then 1 else 0) := by
  induction d with
  | zero =>
    intro i hi _ hv
    have : dv a = dv b := by simp [dv] at hv; omega
    rw [if_neg (by omega), if_neg (by omega)]
    refine Ev.step (f := fun _ => some 0) (fun k => ?_) (Ev.now _)
    simp only [regimenref02_Cmp.l0]
    rw [if_neg (by omega)]
  | succ d ih =>
    intro i hi hi2 hv
    have hid : i = (d : Int) := by omega
    subst hid
    have h1 := dok_getD ha d
    have h2 := dok_getD hb d
    have h3 := dv_take_lt ha d
    have h4 := dv_take_lt hb d
    rw [dv_take_succ, dv_take_succ] at hv
    generalize hA : a.getD d 0 = A at h1 hv
    generalize hB : b.getD d 0 = B at h2 hv
    by_cases c1 : A < B
    · have : 65536 ^ d * (A + 1) ≤ 65536 ^ d * B := Int.mul_le_mul_of_nonneg_left (by omega) (Int.le_of_lt (pow_pos' d))
      rw [Int.mul_add] at this
      rw [if_pos (by omega)]
      refine Ev.step (f := fun _ => some (-1)) (fun k => ?_) (Ev.now _)
      simp only [regimenref02_Cmp.l0]
      rw [if_pos (by omega), digit_at, digit_at]
      simp only [Option.bind_some, hA, hB]
      rw [if_pos c1]
    · by_cases c2 : A > B
      · have : 65536 ^ d * (B + 1) ≤ 65536 ^ d * A := Int.mul_le_mul_of_nonneg_left (by omega) (Int.le_of_lt (pow_pos' d))
        rw [Int.mul_add] at this
        rw [if_neg (by omega), if_pos (by omega)]
        refine Ev.step (f := fun _ => some 1) (fun k => ?_) (Ev.now _)
        simp only [regimenref02_Cmp.l0]
        rw [if_pos (by omega), digit_at, digit_at]
        simp only [Option.bind_some, hA, hB]
        rw [if_neg c1, if_pos c2]
      · have hAB : A = B := by omega
        subst hAB
        refine Ev.step (f := fun k => regimenref02_Cmp.l0 k a b ((d : Int) - 1)) (fun k => ?_) (ih ((d : Int) - 1) (by omega) (by omega) (by omega))
        simp only [regimenref02_Cmp.l0]
        rw [if_pos (by omega), digit_at, digit_at]
        simp only [Option.bind_some, hA, hB]
        rw [if_neg c1, if_neg c2, w64_id (by omega) (by omega)]

theorem cmp_ok (a b : List Int) (ha : dok a) (hb : dok b) (hla : a.length < 4294967296) (hlb : b.length < 4294967296) :
    Ev (fun k => regimenref02_Cmp.f k a b) (if dv a < dv b then -1 else if dv a > dv b then 1 else 0) := by
  have key : ∀ n : Nat, a.length ≤ n → b.length ≤ n → n < 4294967296 → Ev (fun k => regimenref02_Cmp.j0 k a b (n : Int)) (if dv a < dv b then -1 else if dv a > dv b then 1 else 0) := by
    intro n h1 h2 h3
    refine Ev.step (f := fun k => regimenref02_Cmp.l0 k a b ((n : Int) - 1)) (fun k => ?_) (cmp_loop a b ha hb n _ (by omega) (by omega) ?_)
    · simp only [regimenref02_Cmp.j0]
      rw [w64_id (by omega) (by omega)]
    · rw [dv_take_all a n h1, dv_take_all b n h2]
  by_cases h : (b.length : Int) > (a.length : Int)
  · exact Ev.congr (fun k => by unfold regimenref02_Cmp.f; rw [if_pos h]) (key b.length (by omega) (Nat.le_refl _) hlb)
  · exact Ev.congr (fun k => by unfold regimenref02_Cmp.f; rw [if_neg h]) (key a.length (Nat.le_refl _) (by omega) hla)

/-! ### the product -/
theorem times_step {P Q X A B V c o n m r : Int} (h : X + c * (P * Q) = V + P * A * B) (bk : Int) (hn : n = o + A * bk + c) (hm : n = 65536 * r + m) :
    X + P * Q * (m - o) + r * (P * (Q * 65536)) = V + P * A * (B + Q * bk) := by
  have e1 : P * Q * n = P * Q * (65536 * r) + P * Q * m := by rw [hm, Int.mul_add]
  have e2 : P * Q * n = P * Q * o + P * Q * (A * bk) + P * Q * c := by rw [hn, Int.mul_add, Int.mul_add]
  have e3 : P * A * (Q * bk) = P * Q * (A * bk) := by rw [Int.mul_assoc, Int.mul_assoc, Int.mul_left_comm A Q bk]
  have e4 : r * (P * (Q * 65536)) = P * Q * (65536 * r) := by rw [Int.mul_comm r, Int.mul_assoc, Int.mul_assoc, Int.mul_assoc]
  rw [Int.mul_sub, Int.mul_add, e3, e4]
  rw [Int.mul_comm c] at h
  omega

theorem times_in (a b : List Int) (ha : dok a) (hb : dok b) (hla : a.length < 4294967296) (hlb : b.length < 4294967296) (i : Nat) (hi : i < a.length) (Q : List Int → Prop)
    (H : ∀ out : List Int, dok out → out.length = a.length + b.length → dv out = dv (a.take (i + 1)) * dv b → (∀ j, i + 1 + b.length ≤ j → out.getD j 0 = 0) → ∃ r, Ev (fun k => regimenref02_Times.l0 k a b out ((i + 1 : Nat) : Int)) r ∧ Q r) (d : Nat) :
    ∀ (j : Nat) (out : List Int) (c : Int), b.length - j = d → j ≤ b.length → dok out → out.length = a.length + b.length → 0 ≤ c → c < 65536 → (∀ q, i + b.length ≤ q → out.getD q 0 = 0) →
      dv out + c * 65536 ^ (i + j) = dv (a.take i) * dv b + 65536 ^ i * a.getD i 0 * dv (b.take j) →
      ∃ r, Ev (fun k => regimenref02_Times.l1 k a b out (i : Int) c (j : Int)) r ∧ Q r := by
  have h1 := dok_getD ha i
  generalize hA : a.getD i 0 = A at h1
  induction d with
  | zero =>
    intro j out c hd hj hout hlen hc0 hc1 hz hv
    obtain rfl : j = b.length := by omega
    have hzz := hz (i + b.length) (Nat.le_refl _)
    obtain ⟨r, hr, hq⟩ := H (out.set (i + b.length) c) (dok_set hout _ ⟨hc0, hc1⟩) (by rw [List.length_set]; exact hlen) (by
        rw [dv_set _ _ _ (by omega), hzz, dv_take_succ, hA, Int.sub_zero, Int.mul_comm _ c, hv, dv_take_all b _ (Nat.le_refl _), Int.add_mul]) (by
        intro q hq
        rw [List.getD_eq_getElem?_getD, List.getElem?_set_ne (by omega), ← List.getD_eq_getElem?_getD]
        exact hz q (by omega))
    refine ⟨r, ?_, hq⟩
    refine Ev.step (f := fun k => regimenref02_Times.l0 k a b (out.set (i + b.length) c) ((i + 1 : Nat) : Int)) ?_ hr
    intro k
    simp only [regimenref02_Times.l1]
    rw [if_neg (by omega), w64_add (by omega) (by omega), if_pos (by omega), if_pos (by omega), w64_succ (by omega), rd_nat, hzz, Int.zero_add, u64_id hc0 (by omega), Int.toNat_natCast]
  | succ d ih =>
    intro j out c hd hj hout hlen hc0 hc1 hz hv
    have h2 := dok_getD hb j
    have h3 := dok_getD hout (i + j)
    generalize hB : b.getD j 0 = B at h2
    generalize hO : out.getD (i + j) 0 = O at h3
    have hm := mul_bd (M := 65535) (N := 65535) h1.1 (by omega) h2.1 (by omega)
    obtain ⟨r, hr, hq⟩ := ih (j + 1) (out.set (i + j) ((O + A * B + c) % 65536)) ((O + A * B + c) / 65536) (by omega) (by omega) (dok_set hout _ (by omega)) (by rw [List.length_set]; exact hlen) (by omega) (by omega) (by
        intro q hq
        rw [List.getD_eq_getElem?_getD, List.getElem?_set_ne (by omega), ← List.getD_eq_getElem?_getD]
        exact hz q hq) (by
        rw [dv_set _ _ _ (by omega), hO, dv_take_succ, hB, Int.pow_add, show i + (j + 1) = i + j + 1 from rfl, Int.pow_succ, Int.pow_add, Int.mul_assoc (65536 ^ i) (65536 ^ j) 65536]
        rw [Int.pow_add] at hv
        exact times_step hv B rfl (by omega))
    refine ⟨r, ?_, hq⟩
    refine Ev.step (f := fun k => regimenref02_Times.l1 k a b (out.set (i + j) ((O + A * B + c) % 65536)) (i : Int) ((O + A * B + c) / 65536) ((j + 1 : Nat) : Int)) ?_ hr
    intro k
    simp only [regimenref02_Times.l1]
    rw [if_pos (by omega), w64_add (by omega) (by omega), if_pos (by omega), if_pos (by omega), if_pos (by omega), if_pos (by omega), if_pos (by omega), rd_nat, rd_nat, rd_nat, hA, hB, hO, u64_id (x := A * B) (by omega) (by omega), u64_id (x := O + A * B) (by omega) (by omega), u64_id (x := O + A * B + c) (by omega) (by omega), tmod_pos (by omega), tdiv_pos (by omega), u64_id (x := (O + A * B + c) / 65536) (by omega) (by omega), w64_succ (by omega), Int.toNat_natCast]

theorem times_loop (a b : List Int) (ha : dok a) (hb : dok b) (hla : a.length < 4294967296) (hlb : b.length < 4294967296) (d : Nat) :
    ∀ (i : Nat) (out : List Int), a.length - i = d → i ≤ a.length → dok out → out.length = a.length + b.length → dv out = dv (a.take i) * dv b → (∀ j, i + b.length ≤ j → out.getD j 0 = 0) →
      ∃ r, Ev (fun k => regimenref02_Times.l0 k a b out (i : Int)) r ∧ dok r ∧ dv r = dv a * dv b ∧ r.length = a.length + b.length := by
  induction d with
  | zero =>
    intro i out hd hi hout hlen hv hz
    refine ⟨out, ?_, hout, ?_, hlen⟩
    · refine Ev.step (f := fun _ => some out) (fun k => ?_) (Ev.now _)
      simp only [regimenref02_Times.l0]
      rw [if_neg (by omega)]
    · rw [hv, dv_take_all a i (by omega)]
  | succ d ih =>
    intro i out hd hi hout hlen hv hz
    obtain ⟨r, hr, hq⟩ := times_in a b ha hb hla hlb i (by omega) (fun r => dok r ∧ dv r = dv a * dv b ∧ r.length = a.length + b.length)
      (fun out' g1 g2 g3 g4 => ih (i + 1) out' (by omega) (by omega) g1 g2 g3 g4) b.length 0 out 0 (by omega) (by omega) hout hlen (by omega) (by omega) hz (by simp [dv, hv])
    refine ⟨r, ?_, hq⟩
    refine Ev.step (f := fun k => regimenref02_Times.l1 k a b out (i : Int) 0 0) (fun k => ?_) hr
    simp only [regimenref02_Times.l0]
    rw [if_pos (by omega)]

theorem times_ok (a b : List Int) (ha : dok a) (hb : dok b) (hla : a.length < 4294967296) (hlb : b.length < 4294967296) :
    ∃ r, Ev (fun k => regimenref02_Times.f k a b) r ∧ dok r ∧ dv r = dv a * dv b ∧ r.length = a.length + b.length := by
  obtain ⟨r, hr, h⟩ := times_loop a b ha hb hla hlb a.length 0 (List.replicate (a.length + b.length) 0) (by omega) (by omega) (dok_rep _) (by simp) (by simp [dv_rep, dv]) (fun j _ => by
    rw [List.getD_eq_getElem?_getD, List.getElem?_replicate]
    split <;> rfl)
  refine ⟨r, ?_, h⟩
  refine Ev.congr (fun k => ?_) hr
  unfold regimenref02_Times.f
  rw [w64_add (by omega) (by omega), if_pos (by omega), Int.toNat_natCast, if_pos (by omega)]
  rfl

/-! ### powers of two -/
theorem twos_loop (n : Int) (hn : n ≤ 1048576) (d : Nat) : ∀ (i : Nat) (out : List Int), (n - i).toNat = d → (i = 0 ∨ (i : Int) ≤ n) → dok out → dv out = 2 ^ i → out.length ≤ i + 1 →
    ∃ r, Ev (fun k => regimenref02_Twos.l0 k n out (i : Int)) r ∧ dok r ∧ dv r = 2 ^ n.toNat ∧ r.length ≤ n.toNat + 1 := by
  induction d with
  | zero =>
    intro i out hd hi hout hv hl
    have e : i = n.toNat := by omega
    refine ⟨out, ?_, hout, by rw [hv, e], by omega⟩
    refine Ev.step (f := fun _ => some out) (fun k => ?_) (Ev.now _)
    simp only [regimenref02_Twos.l0]
    rw [if_neg (by omega)]
  | succ d ih =>
    intro i out hd hi hout hv hl
    obtain ⟨s, hs, ds, vs, ls⟩ := plus_ok out out hout hout (i + 1) hl hl (by omega)
    obtain ⟨r, hr, p⟩ := ih (i + 1) s (by omega) (by omega) ds (by rw [vs, hv, Int.pow_succ]; omega) (by omega)
    refine ⟨r, ?_, p⟩
    refine Ev.step (f := fun k => (regimenref02_Plus.f k out out).bind fun t => regimenref02_Twos.l0 k n t ((i + 1 : Nat) : Int)) (fun k => ?_) (Ev.bind hs hr)
    simp only [regimenref02_Twos.l0]
    rw [if_pos (by omega), w64_succ (by omega)]
theorem twos_ok (n : Int) (hn : n ≤ 1048576) : ∃ r, Ev (fun k => regimenref02_Twos.f k n) r ∧ dok r ∧ dv r = 2 ^ n.toNat ∧ r.length ≤ n.toNat + 1 := by
  obtain ⟨r, hr, h⟩ := twos_loop n hn (n - (0 : Nat)).toNat 0 [1] rfl (.inl rfl) (dok_cons (by omega) dok_nil) (by simp [dv]) (by simp)
  exact ⟨r, hr, h⟩

/-! ### the lowest 128 bits -/
theorem mod_ok (l : List Int) (hl : dok l) : Ev (fun k => regimenref02_Mod.f k l) (dv l / 18446744073709551616 % 18446744073709551616, dv l % 18446744073709551616) := by
  have d0 := dok_getD hl 0
  have d1 := dok_getD hl 1
  have d2 := dok_getD hl 2
  have d3 := dok_getD hl 3
  have d4 := dok_getD hl 4
  have d5 := dok_getD hl 5
  have d6 := dok_getD hl 6
  have d7 := dok_getD hl 7
  have hq : ∃ q, dv l = dv (l.take 8) + 340282366920938463463374607431768211456 * q := by
    by_cases h : 8 ≤ l.length
    · exact ⟨_, dv_split l 8 h⟩
    · exact ⟨0, by rw [dv_take_all l 8 (by omega)]; simp⟩
  obtain ⟨q, hq⟩ := hq
  have hv : dv (l.take 8) = _ := dv_take_succ l 7
  rw [dv_take_succ l 6, dv_take_succ l 5, dv_take_succ l 4, dv_take_succ l 3, dv_take_succ l 2, dv_take_succ l 1, dv_take_succ l 0] at hv
  simp only [List.take_zero, dv, Int.reducePow] at hv
  have e : ∀ i : Nat, regimenref02_digit.f l (i : Int) = some (l.getD i 0) := digit_at l
  have e7 := e 7
  have e6 := e 6
  have e5 := e 5
  have e4 := e 4
  have e3 := e 3
  have e2 := e 2
  have e1 := e 1
  have e0 := e 0
  generalize l.getD 0 0 = x0 at *
  generalize l.getD 1 0 = x1 at *
  generalize l.getD 2 0 = x2 at *
  generalize l.getD 3 0 = x3 at *
  generalize l.getD 4 0 = x4 at *
  generalize l.getD 5 0 = x5 at *
  generalize l.getD 6 0 = x6 at *
  generalize l.getD 7 0 = x7 at *
  have hstep : ∀ (i : Int) (P Q x : Int), i ≥ 4 → i < 100 → regimenref02_digit.f l i = some x → 0 ≤ P → P < 281474976710656 → 0 ≤ x → x < 65536 → ∀ r, Ev (fun k => regimenref02_Mod.l0 k l (i - 1) (P * 65536 + x) Q) r → Ev (fun k => regimenref02_Mod.l0 k l i P Q) r := by
    intro i P Q x h1 h2 hx p0 p1 x0 x1 r h
    refine Ev.step (f := fun k => regimenref02_Mod.l0 k l (i - 1) (P * 65536 + x) Q) (fun k => ?_) h
    simp only [regimenref02_Mod.l0]
    rw [if_pos (by omega), if_pos h1, hx]
    simp only [Option.bind_some]
    rw [w64_id (by omega) (by omega), u64_id (x := P * 65536) (by omega) (by omega), u64_id (by omega) (by omega)]
  have lstep : ∀ (i : Int) (P Q x : Int), i ≥ 0 → i < 4 → regimenref02_digit.f l i = some x → 0 ≤ Q → Q < 281474976710656 → 0 ≤ x → x < 65536 → ∀ r, Ev (fun k => regimenref02_Mod.l0 k l (i - 1) P (Q * 65536 + x)) r → Ev (fun k => regimenref02_Mod.l0 k l i P Q) r := by
    intro i P Q x h1 h2 hx p0 p1 x0 x1 r h
    refine Ev.step (f := fun k => regimenref02_Mod.l0 k l (i - 1) P (Q * 65536 + x)) (fun k => ?_) h
    simp only [regimenref02_Mod.l0]
    rw [if_pos h1, if_neg (by omega), hx]
    simp only [Option.bind_some]
    rw [w64_id (by omega) (by omega), u64_id (x := Q * 65536) (by omega) (by omega), u64_id (by omega) (by omega)]
  unfold regimenref02_Mod.f
  refine hstep 7 _ _ x7 (by omega) (by omega) e7 (by omega) (by omega) (by omega) (by omega) _ ?_
  refine hstep 6 _ _ x6 (by omega) (by omega) e6 (by omega) (by omega) (by omega) (by omega) _ ?_
  refine hstep 5 _ _ x5 (by omega) (by omega) e5 (by omega) (by omega) (by omega) (by omega) _ ?_
  refine hstep 4 _ _ x4 (by omega) (by omega) e4 (by omega) (by omega) (by omega) (by omega) _ ?_
  refine lstep 3 _ _ x3 (by omega) (by omega) e3 (by omega) (by omega) (by omega) (by omega) _ ?_
  refine lstep 2 _ _ x2 (by omega) (by omega) e2 (by omega) (by omega) (by omega) (by omega) _ ?_
  refine lstep 1 _ _ x1 (by omega) (by omega) e1 (by omega) (by omega) (by omega) (by omega) _ ?_
  refine lstep 0 _ _ x0 (by omega) (by omega) e0 (by omega) (by omega) (by omega) (by omega) _ ?_
  refine Ev.step (f := fun _ => some _) (fun k => ?_) (Ev.now _)
  simp only [regimenref02_Mod.l0]
  rw [if_neg (by omega)]
  congr 1
  rw [Prod.mk.injEq]
  constructor <;> omega
end Go.Proofs.Ytnmmhfpekeeedaa.Num
