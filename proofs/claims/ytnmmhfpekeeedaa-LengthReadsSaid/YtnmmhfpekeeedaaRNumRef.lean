/- Which count a text is, and any number's digits (layer 1): the reference's, by value. -/
import Derived.Test.YtnmmhfpekeeedaaPRx0
import Derived.Test.YtnmmhfpekeeedaaPRx12
import Derived.Test.YtnmmhfpekeeedaaRNum
namespace Go.Proofs.Ytnmmhfpekeeedaa.Num
set_option linter.unusedVariables false
set_option linter.unusedSimpArgs false
open Go.RowKit Go.Proofs.Ytnmmhfpekeeedaa.PR Go.Proofs.YtnmmhfpekeeedaaW.PrintWords Go.Proofs.YtnmmhfpekeeedaaW.PrintMore

theorem pow_ge (n : Nat) (h : 13 ≤ n) : (10000000000000 : Int) ≤ 10 ^ n := by
  obtain ⟨d, rfl⟩ : ∃ d, n = 13 + d := ⟨n - 13, by omega⟩
  rw [Int.pow_add, show (10 : Int) ^ 13 = 10000000000000 from by decide]
  have p : (1 : Int) ≤ 10 ^ d := Int.pow_pos (by decide)
  omega
theorem pow_le : ∀ i : Nat, i < 13 → (10 : Int) ^ i ≤ 1000000000000 := by decide
theorem big_len {l : List Int} (hb : ¬ bad l) (h : 13 < l.length) : valf 0 l > 1099511627776 := by
  have hd := (lead_all l).1 (by
    have := lead_le l
    unfold bad at hb
    omega)
  obtain ⟨x, t, rfl⟩ : ∃ x t, l = x :: t := by
    cases l with
    | nil => simp at h
    | cons x t => exact ⟨x, t, rfl⟩
  have hx : x ≠ 48 := fun e => hb (.inr (.inr ⟨by omega, e⟩))
  have hxd := hd x (by simp)
  have x0 := hxd.1
  have ht : 13 ≤ t.length := by simp at h; omega
  have g := valf_ge (l := t) (fun y hy => hd y (by simp [hy])) (a := 10 * 0 + (x - 48)) (by omega)
  rw [valf_cons]
  have p := pow_ge t.length ht
  have q : 1 * (10 : Int) ^ t.length ≤ (10 * 0 + (x - 48)) * 10 ^ t.length := Int.mul_le_mul_of_nonneg_right (by omega) (by omega)
  omega
theorem lead_at (i : Nat) : ∀ l : List Int, i ≤ l.length → (∀ k, k < i → isDig (l.getD k 0)) → (i = l.length ∨ ¬ isDig (l.getD i 0)) → lead l = i := by
  induction i with
  | zero =>
    intro l hl hd hn
    cases l with
    | nil => rfl
    | cons x t =>
      rcases hn with h | h
      · simp at h
      · exact if_neg h
  | succ i ih =>
    intro l hl hd hn
    cases l with
    | nil => simp at hl
    | cons x t =>
      have hx : isDig x := hd 0 (by omega)
      rw [show lead (x :: t) = lead t + 1 from if_pos hx]
      rw [ih t (by simpa using hl) (fun k hk => hd (k + 1) (by omega)) (by
        rcases hn with h | h
        · exact .inl (by simpa using h)
        · exact .inr h)]
theorem ref_get_l1 (s : ByteArray) (hs : s.size ≤ 13) (hd : ∀ x, x ∈ numsOf s → isDig x) (e : Nat) : ∀ (i : Nat) (a : Int), i + e = s.size → 0 ≤ a → a < 10 ^ i →
    Ev (fun k => regimenref01_Get.l1 k s a (i : Int)) (if valf a ((numsOf s).drop i) > 1099511627776 then (0, 3) else (valf a ((numsOf s).drop i), 0)) := by
  have hl := nums_len s
  induction e with
  | zero =>
    intro i a h h0 h1
    refine Ev.step (fun k => by rw [regimenref01_Get.l1]) ?_
    refine evn (by omega) ?_
    rw [List.drop_eq_nil_of_le (by omega), show valf a [] = a from rfl]
    by_cases c : a > 1099511627776
    · refine evp c ?_
      rw [if_pos c]
      exact Ev.now _
    · refine evn c ?_
      rw [if_neg c]
      exact Ev.now _
  | succ e ih =>
    intro i a h h0 h1
    have hi : i < (numsOf s).length := by omega
    have hx : isDig ((numsOf s).getD i 0) := hd _ (by rw [List.getD_eq_getElem?_getD, List.getElem?_eq_getElem hi]; exact List.getElem_mem hi)
    have x0 := hx.1
    have x1 := hx.2
    have p := pow_le i (by omega)
    refine Ev.step (fun k => by rw [regimenref01_Get.l1]) ?_
    refine evp (by omega) ?_
    refine evp (by omega) ?_
    rw [bt_nums, drop_getD _ _ hi, valf_cons, show ((numsOf s).getD i 0 - 48) % 256 = (numsOf s).getD i 0 - 48 from by omega, w64_id (x := 10 * a) (by omega) (by omega), w64_id (x := 10 * a + ((numsOf s).getD i 0 - 48)) (by omega) (by omega), w64_succ (by omega)]
    refine ih (i + 1) _ (by omega) (by omega) ?_
    rw [Int.pow_succ]
    omega
theorem ref_get_j1 (s : ByteArray) (b : Bool) (hb : b = true ↔ bad (numsOf s)) : Ev (fun k => regimenref01_Get.j1 k s b) (getv (numsOf s)) := by
  have hl := nums_len s
  unfold getv
  refine Ev.step (fun k => by rw [regimenref01_Get.j1]) ?_
  by_cases c : b = true
  · rw [if_pos (hb.1 c)]
    exact evp c (Ev.now _)
  · have nb : ¬ bad (numsOf s) := fun h => c (hb.2 h)
    rw [if_neg nb]
    refine evn c ?_
    by_cases d : (s.size : Int) > 13
    · rw [if_pos (big_len nb (by omega))]
      exact evp d (Ev.now _)
    · refine evn d ?_
      have hd := (lead_all (numsOf s)).1 (by
        have := lead_le (numsOf s)
        unfold bad at nb
        omega)
      have g := ref_get_l1 s (by omega) hd s.size 0 0 (by omega) (by omega) (by simp)
      rw [List.drop_zero] at g
      exact g
theorem ref_get_l0 (s : ByteArray) (hs : s.size < 1000000) (e : Nat) : ∀ i : Nat, i + e = s.size → (∀ k, k < i → isDig ((numsOf s).getD k 0)) → Ev (fun k => regimenref01_Get.l0 k s (i : Int)) (getv (numsOf s)) := by
  have hl := nums_len s
  induction e with
  | zero =>
    intro i h hd
    have la := lead_at i (numsOf s) (by omega) hd (.inl (by omega))
    refine Ev.step (fun k => by rw [regimenref01_Get.l0]) ?_
    refine evn (by omega) ?_
    by_cases z : (s.size : Int) = 0
    · refine evp z (ref_get_j1 s true ?_)
      simp only [true_iff]
      exact .inl (List.eq_nil_of_length_eq_zero (by omega))
    · have nn : numsOf s ≠ [] := fun e => by rw [e] at hl; simp at hl; omega
      refine evn z ?_
      by_cases o : (s.size : Int) > 1
      · refine evp o ?_
        refine evp (by omega) (ref_get_j1 s _ ?_)
        rw [beq_iff_eq, show (0 : Int) = ((0 : Nat) : Int) from rfl, bt_nums]
        unfold bad
        constructor
        · intro h
          exact .inr (.inr ⟨by omega, h⟩)
        · rintro (h | h | h)
          · exact absurd h nn
          · omega
          · exact h.2
      · refine evn o (ref_get_j1 s false ?_)
        simp only [Bool.false_eq_true, false_iff]
        rintro (h | h | h)
        · exact nn h
        · omega
        · omega
  | succ e ih =>
    intro i h hd
    have no : ¬ isDig ((numsOf s).getD i 0) → getv (numsOf s) = (0, 2) := by
      intro hn
      have la := lead_at i (numsOf s) (by omega) hd (.inr hn)
      unfold getv
      rw [if_pos (.inr (.inl (by omega)))]
    refine Ev.step (fun k => by rw [regimenref01_Get.l0]) ?_
    refine evp (by omega) ?_
    refine evp (by omega) ?_
    rw [bt_nums]
    by_cases c : (numsOf s).getD i 0 < 48
    · rw [no (by unfold isDig; omega)]
      exact evp c (Ev.now _)
    · refine evn c ?_
      by_cases d : (numsOf s).getD i 0 > 57
      · rw [no (by unfold isDig; omega)]
        exact evp d (Ev.now _)
      · refine evn d ?_
        rw [w64_succ (by omega)]
        refine ih (i + 1) (by omega) (fun k hk => ?_)
        by_cases q : k = i
        · rw [q]
          unfold isDig
          omega
        · exact hd k (by omega)
theorem ref_get_ok (s : ByteArray) (hs : s.size < 1000000) : Ev (fun k => regimenref01_Get.f k s) (getv (numsOf s)) := by
  unfold regimenref01_Get.f
  exact ref_get_l0 s hs s.size 0 (by omega) (fun k hk => by omega)
theorem get_back {l : List Int} (h : (getv l).2 = 0) : ¬ bad l ∧ (getv l).1 = valf 0 l ∧ valf 0 l ≤ 1099511627776 ∧ 0 ≤ valf 0 l ∧ dig 20 (valf 0 l) [] = l := by
  unfold getv at *
  by_cases b : bad l
  · rw [if_pos b] at h
    exact absurd h (by decide)
  · rw [if_neg b] at *
    by_cases c : valf 0 l > 1099511627776
    · rw [if_pos c] at h
      exact absurd h (by decide)
    · rw [if_neg c]
      have hd := (lead_all l).1 (by
        have := lead_le l
        unfold bad at b
        omega)
      have ln : l.length ≤ 13 := Nat.le_of_not_lt fun q => c (big_len b q)
      have l0 : 0 < l.length := by
        refine List.length_pos_iff.2 fun e => b (.inl e)
      have dv := dig_val (l.length - 1) l [] 20 (by omega) hd (by
        by_cases q : l.length = 1
        · exact .inl q
        · exact .inr fun e => b (.inr (.inr ⟨by omega, e⟩))) (by omega)
      rw [List.append_nil] at dv
      exact ⟨b, rfl, by omega, valf_mono hd (by omega), dv⟩
theorem get_of {u : Int} (h0 : 0 ≤ u) (h1 : u ≤ 1099511627776) : getv (dig 20 u []) = (u, 0) ∧ numsOf (strOfNums (dig 20 u [])) = dig 20 u [] ∧ (dig 20 u []).length ≤ 20 := by
  obtain ⟨m, e, l0, l1, hd, hv, hz⟩ := dig_props 19 u [] h0 (by have := p20; omega)
  rw [List.append_nil] at e
  rw [e]
  refine ⟨?_, nums_str fun x hx => ?_, l1⟩
  · unfold getv
    have la := (lead_all m).2 hd
    have nb : ¬ bad m := by
      rintro (h | h | h)
      · rw [h] at l0
        simp at l0
      · omega
      · exact hz h.1 h.2
    rw [if_neg nb, hv, if_neg (by omega)]
  · have := hd x hx
    unfold isDig at this
    omega
/-- Any number's digits. -/
def tellv (n : Int) : ByteArray := if n < 0 then strOfNums (45 :: dig 20 (-n) []) else strOfNums (dig 20 n [])
end Go.Proofs.Ytnmmhfpekeeedaa.Num
