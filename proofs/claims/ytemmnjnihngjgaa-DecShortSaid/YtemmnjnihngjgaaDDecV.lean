/- Numbers as decimals (layer 5): plain facts on rounding and digits, no program. -/
import Derived.Test.YtemmnjnihngjgaaPDx0
import Derived.Test.YtemmnjnihngjgaaDNumRef
import Derived.Test.YtemmnjnihngjgaaDRndMath
namespace Go.Proofs.Ytemmnjnihngjgaa.Num
set_option linter.unusedVariables false
set_option linter.unusedSimpArgs false
open Go.RowKit Go.Proofs.Ytemmnjnihngjgaa.PD Go.Proofs.YtemmnjnihngjgaaW.PrintWords Go.Proofs.YtemmnjnihngjgaaW.PrintMore

/-- q is the nearest one to V / d; of two that are as near the even one. -/
def nearp (V d q : Int) : Prop := (2 * V - 2 * (q * d) < d ∧ -d < 2 * V - 2 * (q * d)) ∨ ((2 * V - 2 * (q * d) = d ∨ 2 * V - 2 * (q * d) = -d) ∧ q % 2 = 0)
theorem nearp_rnd {V d : Int} (hd : 0 < d) : nearp V d (rnd V d) := by
  obtain ⟨e, r0, r1⟩ := cut_ex V d hd
  unfold nearp rnd
  have h1 : (V / d + 1) * d = d * (V / d) + d := by rw [Int.add_mul, Int.one_mul, Int.mul_comm]
  have h2 : V / d * d = d * (V / d) := Int.mul_comm _ _
  split
  · rename_i c
    rw [h1]
    rcases c with c | c
    · left; omega
    · right; omega
  · rename_i c
    rw [Int.add_zero, h2]
    by_cases t : 2 * (V % d) = d
    · right; omega
    · left; omega
theorem nearp_uniq {V d q p : Int} (hd : 0 < d) (hq : nearp V d q) (hp : nearp V d p) : q = p := by
  have key : ∀ {q p : Int}, nearp V d q → nearp V d p → ¬ q < p := by
    intro q p hq hp h
    unfold nearp at hq hp
    have m : (q + 1) * d ≤ p * d := Int.mul_le_mul_of_nonneg_right (by omega) (by omega)
    rw [Int.add_mul, Int.one_mul] at m
    have e : p * d = q * d + d := by omega
    have e2 : p * d = (q + 1) * d := by rw [Int.add_mul, Int.one_mul]; exact e
    have e3 : p = q + 1 := Int.eq_of_mul_eq_mul_right (by omega) e2
    omega
  have h1 := key hq hp
  have h2 := key hp hq
  omega
theorem rnd_of {V d q : Int} (hd : 0 < d) (h : nearp V d q) : rnd V d = q := nearp_uniq hd (nearp_rnd hd) h
theorem rnd_shift {V d : Int} (q : Int) (hd : 0 < d) (hq : q % 2 = 0) : rnd (q * d + V) d = q + rnd V d := by
  refine rnd_of hd ?_
  have h := nearp_rnd (V := V) hd
  unfold nearp at *
  rw [Int.add_mul]
  omega
/-- The nearest decimal of so many digits is read as the number, if any one of so many is. -/
theorem short {f P F : Int} (hP : 0 < P) (h : rnd (F * 4294967296) P = f) : rnd (rnd (f * P) 4294967296 * 4294967296) P = f := by
  refine rnd_of hP ?_
  have h1 := nearp_rnd (V := F * 4294967296) hP
  rw [h] at h1
  have h2 := nearp_rnd (V := f * P) (d := 4294967296) (by omega)
  generalize rnd (f * P) 4294967296 = D at *
  unfold nearp at *
  rcases Int.lt_or_le D F with c | c
  · omega
  · rcases Int.lt_or_le F D with c2 | c2
    · omega
    · have : F = D := by omega
      subst this
      exact h1
theorem short_ten (f : Int) : rnd (rnd (f * 10000000000) 4294967296 * 4294967296) 10000000000 = f := by
  refine rnd_of (by omega) ?_
  have h2 := nearp_rnd (V := f * 10000000000) (d := 4294967296) (by omega)
  generalize rnd (f * 10000000000) 4294967296 = D at *
  unfold nearp at *
  omega
theorem ten_pos (n : Nat) : (0 : Int) < 10 ^ n := Int.pow_pos (by decide)
theorem ten_even {n : Nat} (h : 0 < n) : (10 : Int) ^ n % 2 = 0 := by
  obtain ⟨m, rfl⟩ : ∃ m, n = m + 1 := ⟨n - 1, by omega⟩
  rw [Int.pow_succ]
  omega
theorem mul_even {a b : Int} (h : b % 2 = 0) : a * b % 2 = 0 := by
  rw [Int.mul_emod, h]
  simp
theorem ten_mono {m n : Nat} (h : m ≤ n) : (10 : Int) ^ m ≤ 10 ^ n := by
  obtain ⟨d, rfl⟩ := Nat.exists_eq_add_of_le h
  rw [Int.pow_add]
  have h1 := ten_pos m
  have h2 := ten_pos d
  have := Int.mul_le_mul_of_nonneg_left (show (1 : Int) ≤ 10 ^ d from h2) (Int.le_of_lt h1)
  omega
/-! ### Digits of a given number of places -/
theorem valf_acc (l : List Int) : ∀ a : Int, valf a l = a * 10 ^ l.length + valf 0 l := by
  induction l with
  | nil => intro a; simp [valf]
  | cons x t ih =>
    intro a
    rw [valf_cons, valf_cons, ih, ih (10 * 0 + (x - 48)), List.length_cons, Int.pow_succ, Int.add_mul, Int.mul_zero, Int.zero_add, Int.add_assoc, Int.mul_comm 10 a, Int.mul_assoc, Int.mul_comm 10]
theorem valf_join (l m : List Int) : valf 0 (l ++ m) = valf 0 l * 10 ^ m.length + valf 0 m := by
  rw [valf_app, valf_acc]
theorem valf_bd {l : List Int} (h : ∀ x, x ∈ l → isDig x) : 0 ≤ valf 0 l ∧ valf 0 l < 10 ^ l.length := by
  have h1 := valf_mono h (Int.le_refl 0)
  have h2 := valf_lt h (a := 0) (i := 0) (by omega) (by decide)
  rw [Nat.zero_add] at h2
  exact ⟨h1, h2⟩
theorem valf_zeros (n : Nat) : valf 0 (List.replicate n 48) = 0 := by
  induction n with
  | zero => rfl
  | succ n ih =>
    rw [List.replicate_succ, valf_cons]
    exact ih
/-- A number's last n digits. -/
def padn : Nat → Int → List Int
  | 0, _ => []
  | n + 1, d => padn n (d / 10) ++ [48 + d % 10]
theorem padn_len (n : Nat) : ∀ d : Int, (padn n d).length = n := by
  induction n with
  | zero => intro d; rfl
  | succ n ih => intro d; simp [padn, ih]
theorem padn_dig (n : Nat) : ∀ d : Int, ∀ x, x ∈ padn n d → isDig x := by
  induction n with
  | zero => intro d x h; cases h
  | succ n ih =>
    intro d x h
    rcases List.mem_append.1 h with h | h
    · exact ih _ x h
    · rw [List.mem_singleton] at h
      unfold isDig
      omega
theorem padn_val (n : Nat) : ∀ d : Int, 0 ≤ d → d < 10 ^ n → valf 0 (padn n d) = d := by
  induction n with
  | zero =>
    intro d h0 h1
    simp at h1
    show (0 : Int) = d
    omega
  | succ n ih =>
    intro d h0 h1
    rw [Int.pow_succ] at h1
    show valf 0 (padn n (d / 10) ++ [48 + d % 10]) = d
    rw [valf_join, ih (d / 10) (by omega) (by omega)]
    simp only [valf, List.foldl, List.length_cons, List.length_nil]
    omega
theorem snoc_ex {l : List Int} {n : Nat} (h : l.length = n + 1) : ∃ m x, l = m ++ [x] ∧ m.length = n := by
  refine ⟨l.dropLast, l.getLast (by intro e; rw [e] at h; simp at h), (List.dropLast_concat_getLast _).symm, ?_⟩
  rw [List.length_dropLast, h]
  rfl
theorem padn_of (n : Nat) : ∀ l : List Int, l.length = n → (∀ x, x ∈ l → isDig x) → l = padn n (valf 0 l) := by
  induction n with
  | zero =>
    intro l h _
    rw [List.length_eq_zero_iff.1 h]
    rfl
  | succ n ih =>
    intro l h hd
    obtain ⟨m, x, rfl, hm⟩ := snoc_ex h
    have hx := hd x (by simp)
    have x0 := hx.1
    have x1 := hx.2
    have e : valf 0 (m ++ [x]) = 10 * valf 0 m + (x - 48) := by
      rw [valf_app]
      rfl
    rw [e]
    show m ++ [x] = padn n ((10 * valf 0 m + (x - 48)) / 10) ++ [48 + (10 * valf 0 m + (x - 48)) % 10]
    rw [show (10 * valf 0 m + (x - 48)) / 10 = valf 0 m from by omega, show 48 + (10 * valf 0 m + (x - 48)) % 10 = x from by omega]
    rw [← ih m hm (fun y hy => hd y (by simp [hy]))]
/-- A number's digits. -/
def tell (u : Int) : List Int := dig 20 u []
theorem tell_ex {u : Int} (h0 : 0 ≤ u) (h1 : u < 100000000000000000000) : 0 < (tell u).length ∧ (tell u).length ≤ 20 ∧ (∀ x, x ∈ tell u → isDig x) ∧ valf 0 (tell u) = u ∧ (1 < (tell u).length → (tell u).getD 0 0 ≠ 48) := by
  obtain ⟨m, e, l0, l1, hd, hv, hz⟩ := dig_props 19 u [] h0 (by have : (10 : Int) ^ (19 + 1) = 100000000000000000000 := (by decide); omega)
  rw [List.append_nil] at e
  unfold tell
  rw [e]
  exact ⟨l0, l1, hd, hv, hz⟩
theorem tell_of {l : List Int} (hl : 0 < l.length) (h20 : l.length ≤ 20) (hd : ∀ x, x ∈ l → isDig x) (hz : l.length = 1 ∨ l.getD 0 0 ≠ 48) : tell (valf 0 l) = l := by
  have := dig_val (l.length - 1) l [] 20 (by omega) hd hz h20
  rw [List.append_nil] at this
  exact this
theorem tell_len {u : Int} {n : Nat} (h0 : 0 ≤ u) (hn : 0 < n) (h20 : n ≤ 20) (h1 : u < 10 ^ n) : (tell u).length ≤ n := by
  have hm := ten_mono h20
  have e20 : (10 : Int) ^ 20 = 100000000000000000000 := by decide
  obtain ⟨l0, l1, hd, hv, hz⟩ := tell_ex h0 (by omega)
  rcases Nat.lt_or_ge n (tell u).length with c | c
  · exfalso
    have z := hz (by omega)
    generalize tell u = l at *
    cases l with
    | nil => simp at l0
    | cons x t =>
      have hx := hd x (by simp)
      have x0 := hx.1
      have z : x ≠ 48 := z
      rw [valf_cons] at hv
      have g := valf_ge (l := t) (fun y hy => hd y (by simp [hy])) (a := 10 * 0 + (x - 48)) (by omega)
      have p := ten_mono (m := n) (n := t.length) (by simp at c; omega)
      have q : 1 * (10 : Int) ^ t.length ≤ (10 * 0 + (x - 48)) * 10 ^ t.length := Int.mul_le_mul_of_nonneg_right (by omega) (Int.le_of_lt (ten_pos _))
      omega
  · exact c
theorem dig_app {l m : List Int} (hl : ∀ x, x ∈ l → isDig x) (hm : ∀ x, x ∈ m → isDig x) : ∀ x, x ∈ l ++ m → isDig x := by
  intro x h
  rcases List.mem_append.1 h with h | h
  · exact hl x h
  · exact hm x h
theorem zeros_dig (n : Nat) : ∀ x, x ∈ List.replicate n (48 : Int) → isDig x := by
  intro x h
  rw [(List.mem_replicate.1 h).2]
  exact ⟨by omega, by omega⟩
/-- Zeros ahead of a number's digits, up to so many places. -/
theorem pad_zeros {u : Int} {n : Nat} (h0 : 0 ≤ u) (hn : 0 < n) (h20 : n ≤ 20) (h1 : u < 10 ^ n) : List.replicate (n - (tell u).length) 48 ++ tell u = padn n u := by
  have hm := ten_mono h20
  have e20 : (10 : Int) ^ 20 = 100000000000000000000 := by decide
  obtain ⟨l0, l1, hd, hv, hz⟩ := tell_ex h0 (by omega)
  have hl := tell_len h0 hn h20 h1
  have h := padn_of n (List.replicate (n - (tell u).length) 48 ++ tell u) (by simp; omega) (dig_app (zeros_dig _) hd)
  rw [valf_join, valf_zeros, hv, Int.zero_mul, Int.zero_add] at h
  exact h
/-- The text of W times 10 to the n and d, filled with zeros up to more than n places: W's digits and d's n places. -/
theorem split_text {W d : Int} {n : Nat} (hW : 0 ≤ W) (hW1 : W < 10000000000) (hn : 0 < n) (hn1 : n ≤ 10) (h0 : 0 ≤ d) (h1 : d < 10 ^ n) :
    List.replicate (n + 1 - (tell (W * 10 ^ n + d)).length) 48 ++ tell (W * 10 ^ n + d) = tell W ++ padn n d := by
  have hm := ten_mono hn1
  have e10 : (10 : Int) ^ 10 = 10000000000 := by decide
  have p := ten_pos n
  have hb : W * 10 ^ n ≤ 9999999999 * 10 ^ n := Int.mul_le_mul_of_nonneg_right (by omega) (by omega)
  have hb0 : 0 ≤ W * 10 ^ n := Int.mul_nonneg hW (by omega)
  obtain ⟨l0, l1, hd, hv, hz⟩ := tell_ex (u := W * 10 ^ n + d) (by omega) (by omega)
  generalize hT : tell (W * 10 ^ n + d) = T at *
  obtain ⟨Z, hZ⟩ : ∃ Z, Z = List.replicate (n + 1 - T.length) (48 : Int) ++ T := ⟨_, rfl⟩
  have hZd : ∀ x, x ∈ Z → isDig x := by rw [hZ]; exact dig_app (zeros_dig _) hd
  have hZv : valf 0 Z = W * 10 ^ n + d := by rw [hZ, valf_join, valf_zeros, hv, Int.zero_mul, Int.zero_add]
  have hZl : n + 1 ≤ Z.length := by rw [hZ]; simp; omega
  have hZl2 : Z.length ≤ 20 := by rw [hZ]; simp; omega
  rw [← hZ]
  have e := List.take_append_drop (Z.length - n) Z
  have hA : ∀ x, x ∈ Z.take (Z.length - n) → isDig x := fun x h => hZd x (List.mem_of_mem_take h)
  have hB : ∀ x, x ∈ Z.drop (Z.length - n) → isDig x := fun x h => hZd x (List.mem_of_mem_drop h)
  have lA : (Z.take (Z.length - n)).length = Z.length - n := by rw [List.length_take]; omega
  have lB : (Z.drop (Z.length - n)).length = n := by rw [List.length_drop]; omega
  have hAz : (Z.take (Z.length - n)).length = 1 ∨ (Z.take (Z.length - n)).getD 0 0 ≠ 48 := by
    by_cases c : Z.length = n + 1
    · left; omega
    · right
      have hzT : Z = T := by
        rw [hZ]
        have : n + 1 - T.length = 0 := by
          rw [hZ] at c
          simp at c
          omega
        rw [this]
        rfl
      have := hz (by rw [← hzT]; omega)
      rw [← hzT] at this
      rwa [List.getD_eq_getElem?_getD, List.getElem?_take_of_lt (by omega), ← List.getD_eq_getElem?_getD]
  have tA := tell_of (by omega) (by omega) hA hAz
  have pB := padn_of n _ lB hB
  have bB := valf_bd hB
  rw [lB] at bB
  have hv2 : valf 0 (Z.take (Z.length - n)) * 10 ^ n + valf 0 (Z.drop (Z.length - n)) = W * 10 ^ n + d := by
    have := valf_join (Z.take (Z.length - n)) (Z.drop (Z.length - n))
    rw [e, hZv, lB] at this
    exact this.symm
  have u1 := div_uniq (a := W * 10 ^ n + d) (P := 10 ^ n) (q := W) (r := d) (by rw [Int.mul_comm]) h0 h1
  have u2 := div_uniq (a := W * 10 ^ n + d) (P := 10 ^ n) (q := valf 0 (Z.take (Z.length - n))) (r := valf 0 (Z.drop (Z.length - n))) (by rw [← hv2, Int.mul_comm]) bB.1 bB.2
  rw [← e, ← tA, pB, ← u2.1, ← u2.2, u1.1, u1.2]
end Go.Proofs.Ytemmnjnihngjgaa.Num
