/- Which count a text is, and any number's digits (layer 1): the reference's, by value. -/
import Derived.Test.YtnmmhfpekeeedaaPNx0
import Derived.Test.YtnmmhfpekeeedaaNNum
namespace Go.Proofs.Ytnmmhfpekeeedaa.Num
set_option linter.unusedVariables false
set_option linter.unusedSimpArgs false
open Go.RowKit Go.Proofs.Ytnmmhfpekeeedaa.PN Go.Proofs.YtnmmhfpekeeedaaW.PrintWords Go.Proofs.YtnmmhfpekeeedaaW.PrintMore

theorem pow_ge (n : Nat) (h : 13 ≤ n) : (10000000000000 : Int) ≤ 10 ^ n := by
  obtain ⟨d, rfl⟩ : ∃ d, n = 13 + d := ⟨n - 13, by omega⟩
  rw [Int.pow_add, show (10 : Int) ^ 13 = 10000000000000 from by decide]
  have p : (1 : Int) ≤ 10 ^ d := Int.pow_pos (by decide)
  omega
theorem pow_le : ∀ i : Nat, i < 13 → (10 : Int) ^ i ≤ 1000000000000 := by decide
theorem big_len {l : List Int} (hb : ¬ bad l) (h : 13 < l.length) : valf 0 l > 1099511627776 := by
  have hd := (lead_all l).1 (by
    have := lead_le l
    unfold bad at hb
    omega)
  obtain ⟨x, t, rfl⟩ : ∃ x t, l = x :: t := by
    cases l with
    | nil => simp at h
    | cons x t => exact ⟨x, t, rfl⟩
  have hx : x ≠ 48 := fun e => hb (.inr (.inr ⟨by omega, e⟩))
  have hxd := hd x (by simp)
  have x0 := hxd.1
  have ht : 13 ≤ t.length := by simp at h; omega
  have g := valf_ge (l := t) (fun y hy => hd y (by simp [hy])) (a := 10 * 0 + (x - 48)) (by omega)
  rw [valf_cons]
  have p := pow_ge t.length ht
  have q : 1 * (10 : Int) ^ t.length ≤ (10 * 0 + (x - 48)) * 10 ^ t.length := Int.mul_le_mul_of_nonneg_right (by omega) (by omega)
  omega
theorem lead_at (i : Nat) : ∀ l : List Int, i ≤ l.length → (∀ k, k < i → isDig (l.getD k 0)) → (i = l.length ∨ ¬ isDig (l.getD i 0)) → lead l = i := by
  induction i with
  | zero =>
    intro l hl hd hn
    cases l with
    | nil => rfl
    | cons x t =>
      rcases hn with h | h
      · simp at h
      · exact if_neg h
  | succ i ih =>
    intro l hl hd hn
    cases l with
    | nil => simp at hl
    | cons x t =>
      have hx : isDig x := hd 0 (by omega)
      rw [show lead (x :: t) = lead t + 1 from if_pos hx]
      rw [ih t (by simpa using hl) (fun k hk => hd (k + 1) (by omega)) (by
        rcases hn with h | h
        · exact .inl (by simpa using h)
        · exact .inr h)]
theorem get_back {l : List Int} (h : (getv l).2 = 0) : ¬ bad l ∧ (getv l).1 = valf 0 l ∧ valf 0 l ≤ 1099511627776 ∧ 0 ≤ valf 0 l ∧ dig 20 (valf 0 l) [] = l := by
  unfold getv at *
  by_cases b : bad l
  · rw [if_pos b] at h
    exact absurd h (by decide)
  · rw [if_neg b] at *
    by_cases c : valf 0 l > 1099511627776
    · rw [if_pos c] at h
      exact absurd h (by decide)
    · rw [if_neg c]
      have hd := (lead_all l).1 (by
        have := lead_le l
        unfold bad at b
        omega)
      have ln : l.length ≤ 13 := Nat.le_of_not_lt fun q => c (big_len b q)
      have l0 : 0 < l.length := by
        refine List.length_pos_iff.2 fun e => b (.inl e)
      have dv := dig_val (l.length - 1) l [] 20 (by omega) hd (by
        by_cases q : l.length = 1
        · exact .inl q
        · exact .inr fun e => b (.inr (.inr ⟨by omega, e⟩))) (by omega)
      rw [List.append_nil] at dv
      exact ⟨b, rfl, by omega, valf_mono hd (by omega), dv⟩
theorem get_of {u : Int} (h0 : 0 ≤ u) (h1 : u ≤ 1099511627776) : getv (dig 20 u []) = (u, 0) ∧ numsOf (strOfNums (dig 20 u [])) = dig 20 u [] ∧ (dig 20 u []).length ≤ 20 := by
  obtain ⟨m, e, l0, l1, hd, hv, hz⟩ := dig_props 19 u [] h0 (by have := p20; omega)
  rw [List.append_nil] at e
  rw [e]
  refine ⟨?_, nums_str fun x hx => ?_, l1⟩
  · unfold getv
    have la := (lead_all m).2 hd
    have nb : ¬ bad m := by
      rintro (h | h | h)
      · rw [h] at l0
        simp at l0
      · omega
      · exact hz h.1 h.2
    rw [if_neg nb, hv, if_neg (by omega)]
  · have := hd x hx
    unfold isDig at this
    omega
/-- Any number's digits. -/
def tellv (n : Int) : ByteArray := if n < 0 then strOfNums (45 :: dig 20 (-n) []) else strOfNums (dig 20 n [])
end Go.Proofs.Ytnmmhfpekeeedaa.Num
