/- Counts as digits (layer 1): the program's and the reference's, by value. Which count a text is, and any number's digits (layer 1): the reference's, by value. What the reference's functions on digits (layer 2) come to: sums, products, differences, comparisons. What the functions on numbers of 128 bits (layer 2) come to: by their value, low + 2^64 * high. Shifts of numbers of 128 bits, and how many bits they have. The quotient of a number of 128 bits by a word, as math/bits makes it: for every dividend whose high word is below the divisor. Quotients, cut and rounded (layer 3): the program's and the reference's, by value. Products, quotients and sums of fixed-point numbers (layer 4): the program's and the reference's, by value. Plain facts on rounding and on fixed-point products: no program. Numbers as decimals (layer 5): plain facts on rounding and digits, no program. Numbers as decimals (layer 5): the program's, by value. Numbers as decimals (layer 5): the reference's reading, by value. Numbers as decimals (layer 5): a number's own decimal, the program's and the reference's, by value. Numbers as decimals (layer 5): a number's own decimal, the reference's, by value. Texts that are parted at a byte, by value. Events' lines (layer 36): the program's and the reference's, by value. How far two numbers are apart (layer 7's reference), by value. Lists that are the same, lists of all of a function's values, copies: by value. Averages in which all count alike (layer 34): the program's and the reference's, by value. Words and lines (layer 45), by value. A text's parts, parted by a byte, and told again. A step's lines (layer 45), by value. Lines of a trace are read (layer 57): their words, heads, groups, events. A step's lines (layer 45), by value: the rounds. Lines of a trace are read (layer 57): a head, a group, an event, each told again. A step that lines begin with (layer 57): what it is, that it may be told, and is told as these lines. All steps that lines begin with (layer 57); and what may be told is let pass. -/
import Derived.Test.YtcgdhpnobgimfaaGreatDoorMTB4
import Derived.Test.YtcgdhpnobgimfaaGreatDoorMTB6
import Derived.Laws.BitsAllLaws
import Derived.Test.YtcgdhpnobgimfaaGreatDoorMTB5
import Derived.Lib.SplitLaws
set_option linter.unusedVariables false
set_option linter.unusedSimpArgs false
section
namespace Go.Proofs.YtcgdhpnobgimfaaGreatDoor.Num
open Go.RowKit Go.Proofs.YtcgdhpnobgimfaaGreatDoor.PB Go.Proofs.YtcgdhpnobgimfaaGreatDoorW.PrintWords Go.Proofs.YtcgdhpnobgimfaaGreatDoorW.PrintMore

def dig : Nat → Int → List Int → List Int
  | 0, _, l => l
  | k + 1, u, l => if u / 10 = 0 then (48 + u % 10) :: l else dig k (u / 10) ((48 + u % 10) :: l)
def isDig (x : Int) : Prop := 48 ≤ x ∧ x ≤ 57
instance (x : Int) : Decidable (isDig x) := by unfold isDig; infer_instance
def valf (a : Int) (l : List Int) : Int := l.foldl (fun a x => 10 * a + (x - 48)) a
theorem valf_app (a : Int) (l m : List Int) : valf a (l ++ m) = valf (valf a l) m := by
  unfold valf
  rw [List.foldl_append]
theorem valf_cons (a x : Int) (l : List Int) : valf a (x :: l) = valf (10 * a + (x - 48)) l := rfl
theorem valf_ge {l : List Int} (h : ∀ x, x ∈ l → isDig x) : ∀ {a : Int}, 0 ≤ a → a * 10 ^ l.length ≤ valf a l := by
  induction l with
  | nil => intro a _; simp [valf]
  | cons x t ih =>
    intro a ha
    have hx := h x (List.mem_cons_self)
    have ih := ih (fun y hy => h y (List.mem_cons_of_mem _ hy)) (a := 10 * a + (x - 48)) (by have := hx.1; omega)
    rw [valf_cons, List.length_cons, Int.pow_succ]
    have p : (0 : Int) ≤ 10 ^ t.length := Int.le_of_lt (Int.pow_pos (by decide))
    have q : a * (10 ^ t.length * 10) ≤ (10 * a + (x - 48)) * 10 ^ t.length := by
      rw [show a * (10 ^ t.length * 10) = (10 * a) * 10 ^ t.length from by rw [Int.mul_comm (10 ^ t.length) 10, ← Int.mul_assoc, Int.mul_comm a 10]]
      exact Int.mul_le_mul_of_nonneg_right (by have := hx.1; omega) p
    omega
theorem valf_mono {l : List Int} (h : ∀ x, x ∈ l → isDig x) {a : Int} (ha : 0 ≤ a) : a ≤ valf a l := by
  have g := valf_ge h ha
  have p : (1 : Int) ≤ 10 ^ l.length := Int.pow_pos (by decide)
  have q : a * 1 ≤ a * 10 ^ l.length := Int.mul_le_mul_of_nonneg_left p ha
  omega
theorem valf_lt {l : List Int} (h : ∀ x, x ∈ l → isDig x) : ∀ {a : Int} {i : Nat}, 0 ≤ a → a < 10 ^ i → valf a l < 10 ^ (i + l.length) := by
  induction l with
  | nil => intro a i _ h2; simpa [valf] using h2
  | cons x t ih =>
    intro a i ha h2
    have hx := h x (List.mem_cons_self)
    have h0 := hx.1
    have h1 := hx.2
    rw [valf_cons, List.length_cons, show i + (t.length + 1) = (i + 1) + t.length from by omega]
    refine ih (fun y hy => h y (List.mem_cons_of_mem _ hy)) (by omega) ?_
    rw [Int.pow_succ]
    omega
theorem dig_props (k : Nat) : ∀ (u : Int) (acc : List Int), 0 ≤ u → u < 10 ^ (k + 1) → ∃ m : List Int, dig (k + 1) u acc = m ++ acc ∧ 0 < m.length ∧ m.length ≤ k + 1 ∧ (∀ x, x ∈ m → isDig x) ∧ valf 0 m = u ∧ (1 < m.length → m.getD 0 0 ≠ 48) := by
  induction k with
  | zero =>
    intro u acc h0 h1
    have h1 : u < 10 := by simpa using h1
    refine ⟨[48 + u], ?_, by simp, by simp, ?_, ?_, by simp⟩
    · show (if u / 10 = 0 then _ else _) = _
      rw [if_pos (by omega), show u % 10 = u from by omega]
      rfl
    · intro x hx
      rw [List.mem_singleton] at hx
      unfold isDig
      omega
    · simp [valf]
      omega
  | succ k ih =>
    intro u acc h0 h1
    rw [show dig (k + 1 + 1) u acc = if u / 10 = 0 then (48 + u % 10) :: acc else dig (k + 1) (u / 10) ((48 + u % 10) :: acc) from rfl]
    by_cases c : u / 10 = 0
    · rw [if_pos c]
      refine ⟨[48 + u % 10], rfl, by simp, by simp, ?_, ?_, by simp⟩
      · intro x hx
        rw [List.mem_singleton] at hx
        unfold isDig
        omega
      · simp [valf]
        omega
    · rw [if_neg c]
      have hq : u / 10 < 10 ^ (k + 1) := by
        rw [Int.pow_succ] at h1
        omega
      obtain ⟨m, e, l0, l1, hd, hv, hz⟩ := ih (u / 10) ((48 + u % 10) :: acc) (by omega) hq
      refine ⟨m ++ [48 + u % 10], by rw [e]; simp, by simp, by simp; omega, ?_, ?_, ?_⟩
      · intro x hx
        rcases List.mem_append.1 hx with hx | hx
        · exact hd x hx
        · rw [List.mem_singleton] at hx
          unfold isDig
          omega
      · rw [valf_app, hv]
        show 10 * (u / 10) + (48 + u % 10 - 48) = u
        omega
      · intro _
        obtain ⟨x, t, rfl⟩ : ∃ x t, m = x :: t := by
          cases m with
          | nil => simp at l0
          | cons x t => exact ⟨x, t, rfl⟩
        show x ≠ 48
        cases t with
        | nil =>
          intro hx
          rw [hx] at hv
          simp [valf] at hv
          omega
        | cons y t => exact hz (by simp)
theorem dig_val (n : Nat) : ∀ (l acc : List Int) (k : Nat), l.length = n + 1 → (∀ x, x ∈ l → isDig x) → (l.length = 1 ∨ l.getD 0 0 ≠ 48) → l.length ≤ k → dig k (valf 0 l) acc = l ++ acc := by
  induction n with
  | zero =>
    intro l acc k hl hd _ hk
    obtain ⟨x, rfl⟩ := List.length_eq_one_iff.1 hl
    obtain ⟨k, rfl⟩ : ∃ j, k = j + 1 := ⟨k - 1, by simp at hk; omega⟩
    have hx := hd x (by simp)
    have h0 := hx.1
    have h1 := hx.2
    have e : valf 0 [x] = x - 48 := by simp [valf]
    rw [e]
    show (if (x - 48) / 10 = 0 then (48 + (x - 48) % 10) :: acc else _) = _
    rw [if_pos (by omega), show 48 + (x - 48) % 10 = x from by omega]
    rfl
  | succ n ih =>
    intro l acc k hl hd hz hk
    obtain ⟨m, x, rfl⟩ : ∃ m x, l = m ++ [x] := by
      refine ⟨l.dropLast, l.getLast (by intro e; rw [e] at hl; simp at hl), ?_⟩
      rw [List.dropLast_concat_getLast]
    have hm : m.length = n + 1 := by simpa using hl
    obtain ⟨k, rfl⟩ : ∃ j, k = j + 1 := ⟨k - 1, by simp at hk; omega⟩
    have hx := hd x (by simp)
    have h0 := hx.1
    have h1 := hx.2
    have hdm : ∀ y, y ∈ m → isDig y := fun y hy => hd y (by simp [hy])
    obtain ⟨y, t, rfl⟩ : ∃ y t, m = y :: t := by
      cases m with
      | nil => simp at hm
      | cons y t => exact ⟨y, t, rfl⟩
    have hy : y ≠ 48 := by
      rcases hz with hz | hz
      · simp at hz
      · exact hz
    have hyd := hdm y (by simp)
    have hv1 : 1 ≤ valf 0 (y :: t) := by
      rw [valf_cons]
      have := valf_mono (l := t) (fun z hz => hdm z (by simp [hz])) (a := 10 * 0 + (y - 48)) (by have := hyd.1; omega)
      have := hyd.1
      omega
    have e : valf 0 ((y :: t) ++ [x]) = 10 * valf 0 (y :: t) + (x - 48) := by
      rw [valf_app]
      rfl
    rw [e]
    rw [show dig (k + 1) (10 * valf 0 (y :: t) + (x - 48)) acc = if (10 * valf 0 (y :: t) + (x - 48)) / 10 = 0 then (48 + (10 * valf 0 (y :: t) + (x - 48)) % 10) :: acc else dig k ((10 * valf 0 (y :: t) + (x - 48)) / 10) ((48 + (10 * valf 0 (y :: t) + (x - 48)) % 10) :: acc) from rfl]
    rw [if_neg (by omega), show (10 * valf 0 (y :: t) + (x - 48)) / 10 = valf 0 (y :: t) from by omega, show 48 + (10 * valf 0 (y :: t) + (x - 48)) % 10 = x from by omega]
    rw [ih (y :: t) (x :: acc) k hm hdm (.inr hy) (by simp at hk hm ⊢; omega)]
    simp
theorem p20 : (18446744073709551616 : Int) < 10 ^ 20 := by decide
theorem digits_loop (m : Nat) : ∀ (u : Int) (l : List Int), l.length + (m + 1) = 20 → 0 ≤ u → u < 18446744073709551616 → u < 10 ^ (m + 1) → Ev (fun k => num_digits.l0 k u l) (strOfNums (dig (m + 1) u l)) := by
  induction m with
  | zero =>
    intro u l hl h0 h1 h2
    have h2 : u < 10 := by simpa using h2
    refine Ev.step (fun k => by rw [num_digits.l0]) ?_
    refine evp (by omega) ?_
    refine evp h0 ?_
    refine evp h1 ?_
    refine evp (by omega) ?_
    rw [show dig (0 + 1) u l = (48 + u % 10) :: l from if_pos (by omega)]
    exact Ev.now _
  | succ m ih =>
    intro u l hl h0 h1 h2
    refine Ev.step (fun k => by rw [num_digits.l0]) ?_
    refine evp (by omega) ?_
    refine evp h0 ?_
    refine evp h1 ?_
    by_cases c : u / 10 = 0
    · rw [show dig (m + 1 + 1) u l = (48 + u % 10) :: l from if_pos c]
      exact evp c (Ev.now _)
    · rw [show dig (m + 1 + 1) u l = dig (m + 1) (u / 10) ((48 + u % 10) :: l) from if_neg c]
      refine evn c (ih _ _ (by simp only [List.length_cons]; omega) (by omega) (by omega) ?_)
      rw [Int.pow_succ] at h2
      omega
theorem digits_ok {u : Int} (h0 : 0 ≤ u) (h1 : u < 18446744073709551616) : Ev (fun k => num_digits.f k u) (strOfNums (dig 20 u [])) := by
  unfold num_digits.f
  have := p20
  exact digits_loop 19 u [] rfl h0 h1 (by omega)
theorem text_loop (m : Nat) : ∀ (u : Int) (l : List Int), l.length + (m + 1) ≤ 30 → 0 ≤ u → u < 9223372036854775808 → u < 10 ^ (m + 1) →
    Ev (fun k => regimenref01_Text.l0 k u (⟨#[48, 49, 50, 51, 52, 53, 54, 55, 56, 57]⟩ : ByteArray) (strOfNums ((48 + u % 10) :: l))) (strOfNums (dig (m + 1) u l)) := by
  induction m with
  | zero =>
    intro u l hl h0 h1 h2
    have h2 : u < 10 := by simpa using h2
    refine Ev.step (fun k => by rw [regimenref01_Text.l0]) ?_
    refine evn (by omega) ?_
    rw [show dig (0 + 1) u l = (48 + u % 10) :: l from if_pos (by omega)]
    exact Ev.now _
  | succ m ih =>
    intro u l hl h0 h1 h2
    refine Ev.step (fun k => by rw [regimenref01_Text.l0]) ?_
    by_cases c : u / 10 = 0
    · rw [show dig (m + 1 + 1) u l = (48 + u % 10) :: l from if_pos c]
      exact evn (by omega) (Ev.now _)
    · rw [show dig (m + 1 + 1) u l = dig (m + 1) (u / 10) ((48 + u % 10) :: l) from if_neg c]
      refine evp (by omega) ?_
      rw [show Int.tdiv u 10 = u / 10 from Int.tdiv_eq_ediv_of_nonneg h0, w64_id (x := u / 10) (by omega) (by omega), show Int.tmod (u / 10) 10 = u / 10 % 10 from Int.tmod_eq_emod_of_nonneg (by omega), w64_id (x := u / 10 % 10 + 1) (by omega) (by omega)]
      have hn := digit_str (u / 10 % 10).toNat (by omega)
      have e : (⟨#[48, 49, 50, 51, 52, 53, 54, 55, 56, 57]⟩ : ByteArray).extract (u / 10 % 10).toNat (u / 10 % 10 + 1).toNat = strOfNums [48 + u / 10 % 10] := by
        rw [show (u / 10 % 10 + 1).toNat = (u / 10 % 10).toNat + 1 from by omega, hn, show ((u / 10 % 10).toNat : Int) = u / 10 % 10 from by omega]
      rw [e, str_app]
      refine evp (by omega) ?_
      refine evp (by omega) ?_
      refine evp (by show u / 10 % 10 + 1 ≤ 10; omega) ?_
      refine evp (by rw [strOfNums_size, strOfNums_size]; simp only [List.length_cons, List.length_nil]; omega) ?_
      refine ih (u / 10) ((48 + u % 10) :: l) (by simp only [List.length_cons]; omega) (by omega) (by omega) ?_
      rw [Int.pow_succ] at h2
      omega
theorem text_ok {u : Int} (h0 : 0 ≤ u) (h1 : u < 9223372036854775808) : Ev (fun k => regimenref01_Text.f k u) (strOfNums (dig 20 u [])) := by
  have := p20
  have t := text_loop 19 u [] (by simp) h0 h1 (by omega)
  unfold regimenref01_Text.f
  rw [show Int.tmod u 10 = u % 10 from Int.tmod_eq_emod_of_nonneg h0, w64_id (x := u % 10 + 1) (by omega) (by omega)]
  have hn := digit_str (u % 10).toNat (by omega)
  have e : (⟨#[48, 49, 50, 51, 52, 53, 54, 55, 56, 57]⟩ : ByteArray).extract (u % 10).toNat (u % 10 + 1).toNat = strOfNums [48 + u % 10] := by
    rw [show (u % 10 + 1).toNat = (u % 10).toNat + 1 from by omega, hn, show ((u % 10).toNat : Int) = u % 10 from by omega]
  rw [e]
  refine evp (by omega) ?_
  refine evp (by omega) ?_
  refine evp (by omega) ?_
  exact t
def lead : List Int → Nat
  | [] => 0
  | x :: t => if isDig x then lead t + 1 else 0
theorem lead_le (l : List Int) : lead l ≤ l.length := by
  induction l with
  | nil => simp [lead]
  | cons x t ih =>
    unfold lead
    split
    · simp; omega
    · simp
theorem lead_all (l : List Int) : lead l = l.length ↔ ∀ x, x ∈ l → isDig x := by
  induction l with
  | nil => simp [lead]
  | cons x t ih =>
    unfold lead
    have := lead_le t
    by_cases c : isDig x
    · rw [if_pos c]
      simp only [List.length_cons, Nat.add_right_cancel_iff, List.mem_cons, forall_eq_or_imp]
      rw [ih]
      exact ⟨fun h => ⟨c, h⟩, fun h => h.2⟩
    · rw [if_neg c]
      simp only [List.length_cons, List.mem_cons, forall_eq_or_imp]
      exact ⟨fun h => by omega, fun h => absurd h.1 c⟩
theorem drop_getD (l : List Int) (i : Nat) (h : i < l.length) : l.drop i = l.getD i 0 :: l.drop (i + 1) := by
  rw [List.drop_eq_getElem_cons h, List.getD_eq_getElem?_getD, List.getElem?_eq_getElem h]
  rfl
theorem lead_loop (s : ByteArray) (hs : s.size < 1000000) (e : Nat) : ∀ i : Nat, i + e = s.size → Ev (fun k => num_Lead.l0 k s (numsOf s) ((numsOf s).length : Int) (i : Int)) ((i + lead ((numsOf s).drop i) : Nat) : Int) := by
  have hl := nums_len s
  induction e with
  | zero =>
    intro i h
    refine Ev.step (fun k => by rw [num_Lead.l0]) ?_
    refine evn (by omega) ?_
    rw [List.drop_eq_nil_of_le (by omega)]
    rw [show ((i + lead [] : Nat) : Int) = (s.size : Int) from by simp [lead]; omega]
    exact Ev.now _
  | succ e ih =>
    intro i h
    have nx := ih (i + 1) (by omega)
    refine Ev.step (fun k => by rw [num_Lead.l0]) ?_
    refine evp (by omega) ?_
    refine evp (by omega) ?_
    refine evp (by omega) ?_
    rw [rd_nat, drop_getD _ _ (by omega)]
    by_cases c : (numsOf s).getD i 0 < 48
    · rw [show lead ((numsOf s).getD i 0 :: (numsOf s).drop (i + 1)) = 0 from if_neg (by unfold isDig; omega)]
      exact evp c (Ev.now _)
    · refine evn c ?_
      by_cases d : (numsOf s).getD i 0 > 57
      · rw [show lead ((numsOf s).getD i 0 :: (numsOf s).drop (i + 1)) = 0 from if_neg (by unfold isDig; omega)]
        exact evp d (Ev.now _)
      · rw [show lead ((numsOf s).getD i 0 :: (numsOf s).drop (i + 1)) = lead ((numsOf s).drop (i + 1)) + 1 from if_pos (by unfold isDig; omega)]
        refine evn d ?_
        rw [w64_succ (by omega), show i + (lead ((numsOf s).drop (i + 1)) + 1) = i + 1 + lead ((numsOf s).drop (i + 1)) from by omega]
        exact nx
theorem lead_ok (s : ByteArray) (hs : s.size < 1000000) : Ev (fun k => num_Lead.f k s) (lead (numsOf s) : Int) := by
  unfold num_Lead.f
  refine evp (by omega) ?_
  unfold num_Lead.g
  have := lead_loop s hs s.size 0 (by omega)
  rw [List.drop_zero, Nat.zero_add] at this
  exact this
def bad (l : List Int) : Prop := l = [] ∨ lead l < l.length ∨ (1 < l.length ∧ l.getD 0 0 = 48)
instance (l : List Int) : Decidable (bad l) := by unfold bad; infer_instance
def getv (l : List Int) : Int × Int := if bad l then (0, 2) else if valf 0 l > 1099511627776 then (0, 3) else (valf 0 l, 0)
theorem get_loop (l : List Int) (hl : l.length < 1000000) (hd : ∀ x, x ∈ l → isDig x) (e : Nat) : ∀ (i : Nat) (a : Int), i + e = l.length → 0 ≤ a → a ≤ 1099511627776 →
    Ev (fun k => num_Get.l0 k a l (l.length : Int) (i : Int)) (if valf a (l.drop i) > 1099511627776 then (0, 3) else (valf a (l.drop i), 0)) := by
  induction e with
  | zero =>
    intro i a h h0 h1
    refine Ev.step (fun k => by rw [num_Get.l0]) ?_
    refine evn (by omega) ?_
    rw [List.drop_eq_nil_of_le (by omega), show valf a [] = a from rfl, if_neg (by omega)]
    exact Ev.now _
  | succ e ih =>
    intro i a h h0 h1
    have hi : i < l.length := by omega
    have hx : isDig (l.getD i 0) := hd _ (by rw [List.getD_eq_getElem?_getD, List.getElem?_eq_getElem hi]; exact List.getElem_mem hi)
    have x0 := hx.1
    have x1 := hx.2
    refine Ev.step (fun k => by rw [num_Get.l0]) ?_
    refine evp (by omega) ?_
    refine evp (by omega) ?_
    refine evp (by omega) ?_
    rw [rd_nat, drop_getD _ _ hi, valf_cons, show (l.getD i 0 - 48) % 256 = l.getD i 0 - 48 from by omega, w64_id (x := 10 * a) (by omega) (by omega), w64_id (x := 10 * a + (l.getD i 0 - 48)) (by omega) (by omega)]
    by_cases c : 10 * a + (l.getD i 0 - 48) > 1099511627776
    · refine evp c ?_
      have m := valf_mono (l := l.drop (i + 1)) (fun y hy => hd y (List.mem_of_mem_drop hy)) (a := 10 * a + (l.getD i 0 - 48)) (by omega)
      rw [if_pos (by omega)]
      exact Ev.now _
    · refine evn c ?_
      rw [w64_succ (by omega)]
      exact ih (i + 1) _ (by omega) (by omega) (by omega)
theorem get_ok (s : ByteArray) (hs : s.size < 1000000) : Ev (fun k => num_Get.f k s) (getv (numsOf s)) := by
  have hl := nums_len s
  have j : ∀ b : Bool, (b = true ↔ bad (numsOf s)) → Ev (fun k => num_Get.j0 k (numsOf s) b) (getv (numsOf s)) := by
    intro b hb
    unfold getv
    refine Ev.step (fun k => by rw [num_Get.j0]) ?_
    by_cases c : b = true
    · rw [if_pos (hb.1 c)]
      exact evp c (Ev.now _)
    · have nb : ¬ bad (numsOf s) := fun h => c (hb.2 h)
      rw [if_neg nb]
      refine evn c ?_
      have hd := (lead_all (numsOf s)).1 (by
        have := lead_le (numsOf s)
        unfold bad at nb
        omega)
      have g := get_loop (numsOf s) (by omega) hd (numsOf s).length 0 0 (by omega) (by omega) (by omega)
      rw [List.drop_zero] at g
      exact g
  unfold num_Get.f
  refine evp (by omega) ?_
  unfold num_Get.g
  by_cases c1 : s.toList = ([] : List UInt8)
  · refine evp c1 (j true ?_)
    simp only [true_iff]
    exact .inl ((toList_nil s).1 c1)
  · have n1 : numsOf s ≠ [] := fun h => c1 ((toList_nil s).2 h)
    have l0 : 0 < (numsOf s).length := List.length_pos_iff.2 n1
    refine evn c1 ?_
    refine Ev.bind (lead_ok s hs) ?_
    by_cases c2 : (lead (numsOf s) : Int) < (s.size : Int)
    · refine evp c2 (j true ?_)
      simp only [true_iff]
      exact .inr (.inl (by omega))
    · refine evn c2 ?_
      refine evp (by omega) ?_
      rw [show (0 : Int) = ((0 : Nat) : Int) from rfl, bt_nums]
      by_cases c3 : (numsOf s).getD 0 0 = 48
      · refine evp c3 (j _ ?_)
        rw [decide_eq_true_eq]
        unfold bad
        constructor
        · intro h
          exact .inr (.inr ⟨by omega, c3⟩)
        · rintro (h | h | h)
          · exact absurd h n1
          · omega
          · omega
      · refine evn c3 (j _ ?_)
        simp only [Bool.false_eq_true, false_iff]
        rintro (h | h | h)
        · exact absurd h n1
        · omega
        · exact c3 h.2
end Go.Proofs.YtcgdhpnobgimfaaGreatDoor.Num
end
section
namespace Go.Proofs.YtcgdhpnobgimfaaGreatDoor.Num
open Go.RowKit Go.Proofs.YtcgdhpnobgimfaaGreatDoor.PB Go.Proofs.YtcgdhpnobgimfaaGreatDoorW.PrintWords Go.Proofs.YtcgdhpnobgimfaaGreatDoorW.PrintMore

theorem pow_ge (n : Nat) (h : 13 ≤ n) : (10000000000000 : Int) ≤ 10 ^ n := by
  obtain ⟨d, rfl⟩ : ∃ d, n = 13 + d := ⟨n - 13, by omega⟩
  rw [Int.pow_add, show (10 : Int) ^ 13 = 10000000000000 from by decide]
  have p : (1 : Int) ≤ 10 ^ d := Int.pow_pos (by decide)
  omega
theorem big_len {l : List Int} (hb : ¬ bad l) (h : 13 < l.length) : valf 0 l > 1099511627776 := by
  have hd := (lead_all l).1 (by
    have := lead_le l
    unfold bad at hb
    omega)
  obtain ⟨x, t, rfl⟩ : ∃ x t, l = x :: t := by
    cases l with
    | nil => simp at h
    | cons x t => exact ⟨x, t, rfl⟩
  have hx : x ≠ 48 := fun e => hb (.inr (.inr ⟨by omega, e⟩))
  have hxd := hd x (by simp)
  have x0 := hxd.1
  have ht : 13 ≤ t.length := by simp at h; omega
  have g := valf_ge (l := t) (fun y hy => hd y (by simp [hy])) (a := 10 * 0 + (x - 48)) (by omega)
  rw [valf_cons]
  have p := pow_ge t.length ht
  have q : 1 * (10 : Int) ^ t.length ≤ (10 * 0 + (x - 48)) * 10 ^ t.length := Int.mul_le_mul_of_nonneg_right (by omega) (by omega)
  omega
theorem get_back {l : List Int} (h : (getv l).2 = 0) : ¬ bad l ∧ (getv l).1 = valf 0 l ∧ valf 0 l ≤ 1099511627776 ∧ 0 ≤ valf 0 l ∧ dig 20 (valf 0 l) [] = l := by
  unfold getv at *
  by_cases b : bad l
  · rw [if_pos b] at h
    exact absurd h (by decide)
  · rw [if_neg b] at *
    by_cases c : valf 0 l > 1099511627776
    · rw [if_pos c] at h
      exact absurd h (by decide)
    · rw [if_neg c]
      have hd := (lead_all l).1 (by
        have := lead_le l
        unfold bad at b
        omega)
      have ln : l.length ≤ 13 := Nat.le_of_not_lt fun q => c (big_len b q)
      have l0 : 0 < l.length := by
        refine List.length_pos_iff.2 fun e => b (.inl e)
      have dv := dig_val (l.length - 1) l [] 20 (by omega) hd (by
        by_cases q : l.length = 1
        · exact .inl q
        · exact .inr fun e => b (.inr (.inr ⟨by omega, e⟩))) (by omega)
      rw [List.append_nil] at dv
      exact ⟨b, rfl, by omega, valf_mono hd (by omega), dv⟩
theorem get_of {u : Int} (h0 : 0 ≤ u) (h1 : u ≤ 1099511627776) : getv (dig 20 u []) = (u, 0) ∧ numsOf (strOfNums (dig 20 u [])) = dig 20 u [] ∧ (dig 20 u []).length ≤ 20 := by
  obtain ⟨m, e, l0, l1, hd, hv, hz⟩ := dig_props 19 u [] h0 (by have := p20; omega)
  rw [List.append_nil] at e
  rw [e]
  refine ⟨?_, nums_str fun x hx => ?_, l1⟩
  · unfold getv
    have la := (lead_all m).2 hd
    have nb : ¬ bad m := by
      rintro (h | h | h)
      · rw [h] at l0
        simp at l0
      · omega
      · exact hz h.1 h.2
    rw [if_neg nb, hv, if_neg (by omega)]
  · have := hd x hx
    unfold isDig at this
    omega
def tellv (n : Int) : ByteArray := if n < 0 then strOfNums (45 :: dig 20 (-n) []) else strOfNums (dig 20 n [])
theorem tell_ok {n : Int} (h : -9223372036854775808 ≤ n ∧ n < 9223372036854775808) : Ev (fun k => num_Tell.f k n) (tellv n) := by
  unfold num_Tell.f tellv
  by_cases c : n < 0
  · rw [if_pos c]
    refine evp c ?_
    rw [show IntKind.u64.wrap (-(IntKind.u64.wrap n)) = -n from by rw [u64_mod, u64_mod]; omega]
    refine Ev.bind (digits_ok (by omega) (by omega)) ?_
    obtain ⟨m, e, l0, l1, hd, hv, hz⟩ := dig_props 19 (-n) [] (by omega) (by have := p20; omega)
    rw [List.append_nil] at e
    refine evp (by rw [strOfNums_size, e]; omega) ?_
    rw [show (⟨#[45]⟩ : ByteArray) = strOfNums [45] from by decide +kernel, str_app]
    exact Ev.now _
  · rw [if_neg c]
    refine evn c ?_
    rw [u64_id (x := n) (by omega) (by omega)]
    refine Ev.bind (digits_ok (by omega) (by omega)) ?_
    exact Ev.now _
theorem ref_tell_ok {n : Int} (h : -9223372036854775808 ≤ n ∧ n < 9223372036854775808) : Ev (fun k => regimenref01_Tell.f k n) (tellv n) := by
  unfold regimenref01_Tell.f tellv
  by_cases c : n < 0
  · rw [if_pos c]
    obtain ⟨u, rfl⟩ : ∃ u, n = -u := ⟨-n, by omega⟩
    have tm : Int.tmod (-u) 10 = -(u % 10) := by rw [Int.neg_tmod, Int.tmod_eq_emod_of_nonneg (by omega)]
    have td : Int.tdiv (-u) 10 = -(u / 10) := by rw [Int.neg_tdiv, Int.tdiv_eq_ediv_of_nonneg (by omega)]
    rw [tm, td, Int.neg_neg, Int.neg_neg, w64_id (x := u % 10) (by omega) (by omega), w64_id (x := u % 10 + 1) (by omega) (by omega), w64_id (x := -(u / 10)) (by omega) (by omega), Int.neg_neg, w64_id (x := u / 10) (by omega) (by omega)]
    have hn := digit_str (u % 10).toNat (by omega)
    have e : (⟨#[48, 49, 50, 51, 52, 53, 54, 55, 56, 57]⟩ : ByteArray).extract (u % 10).toNat (u % 10 + 1).toNat = strOfNums [48 + u % 10] := by
      rw [show (u % 10 + 1).toNat = (u % 10).toNat + 1 from by omega, hn, show ((u % 10).toNat : Int) = u % 10 from by omega]
    rw [e]
    refine evn (by omega) ?_
    refine evp (by omega) ?_
    refine evp (by omega) ?_
    refine evp (by omega) ?_
    by_cases d : u / 10 = 0
    · refine evp (by omega) ?_
      refine evp (by rw [strOfNums_size]; simp) ?_
      rw [show (⟨#[45]⟩ : ByteArray) = strOfNums [45] from by decide +kernel, str_app, show dig 20 u [] = [48 + u % 10] from if_pos d]
      exact Ev.now _
    · refine evn (by omega) ?_
      refine Ev.bind (text_ok (u := u / 10) (by omega) (by omega)) ?_
      have p19 : (9223372036854775808 : Int) < 10 ^ 19 := by decide
      obtain ⟨m, em, l0, l1, hd, hv, hz⟩ := dig_props 18 (u / 10) [48 + u % 10] (by omega) (by omega)
      have dv := dig_val (m.length - 1) m [] 20 (by omega) hd (by
        by_cases q : m.length = 1
        · exact .inl q
        · exact .inr (hz (by omega))) (by omega)
      rw [hv, List.append_nil] at dv
      rw [dv]
      refine evp (by rw [strOfNums_size, strOfNums_size]; simp; omega) ?_
      rw [str_app]
      refine evp (by rw [strOfNums_size]; simp; omega) ?_
      rw [show (⟨#[45]⟩ : ByteArray) = strOfNums [45] from by decide +kernel, str_app, show dig 20 u [] = dig 19 (u / 10) [48 + u % 10] from if_neg d, em]
      exact Ev.now _
  · rw [if_neg c]
    refine evp (by omega) ?_
    refine Ev.bind (text_ok (by omega) h.2) ?_
    exact Ev.now _
end Go.Proofs.YtcgdhpnobgimfaaGreatDoor.Num
end
section
namespace Go.Proofs.YtcgdhpnobgimfaaGreatDoor.Num
open Go.RowKit Go.Proofs.YtcgdhpnobgimfaaGreatDoor.PB Go.Proofs.YtcgdhpnobgimfaaGreatDoorW.PrintWords

theorem mul_bd {x y M N : Int} (hx0 : 0 ≤ x) (hx : x ≤ M) (hy0 : 0 ≤ y) (hy : y ≤ N) : 0 ≤ x * y ∧ x * y ≤ M * N :=
  ⟨Int.mul_nonneg hx0 hy0, Int.mul_le_mul hx hy hy0 (by omega)⟩

theorem digit_at (l : List Int) (i : Nat) : regimenref02_digit.f l (i : Int) = some (l.getD i 0) := by
  unfold regimenref02_digit.f
  by_cases h : (i : Int) < (l.length : Int)
  · rw [if_pos h, if_pos (by omega), rd_nat]
  · rw [if_neg h, List.getD_eq_getElem?_getD, List.getElem?_eq_none (by omega)]
    rfl
theorem getD_out (l : List Int) (i : Nat) (h : l.length ≤ i) : l.getD i 0 = 0 := by
  rw [List.getD_eq_getElem?_getD, List.getElem?_eq_none h]
  rfl

theorem word_ok (u : Int) (h0 : 0 ≤ u) (h1 : u < 18446744073709551616) : ∃ l, regimenref02_Word.f u = some l ∧ dok l ∧ dv l = u ∧ l.length = 4 := by
  have e1 := tmod_pos (b := 65536) h0
  have e2 := tdiv_pos (b := 65536) h0
  have e3 := tdiv_pos (b := 4294967296) h0
  have e4 := tdiv_pos (b := 281474976710656) h0
  have w2 : IntKind.u64.wrap (u / 65536) = u / 65536 := u64_id (by omega) (by omega)
  have w3 : IntKind.u64.wrap (u / 4294967296) = u / 4294967296 := u64_id (by omega) (by omega)
  have w4 : IntKind.u64.wrap (u / 281474976710656) = u / 281474976710656 := u64_id (by omega) (by omega)
  refine ⟨[u % 65536, u / 65536 % 65536, u / 4294967296 % 65536, u / 281474976710656], ?_, ?_, ?_, rfl⟩
  · unfold regimenref02_Word.f
    rw [e1, e2, e3, e4, w2, w3, w4, tmod_pos (by omega), tmod_pos (by omega)]
  · exact dok_cons (by omega) (dok_cons (by omega) (dok_cons (by omega) (dok_cons (by omega) dok_nil)))
  · simp only [dv]
    omega

theorem plus_step {c d p q P x y n m r : Int} (h : c + P * d = p + q) (hn : n = x + y + d) (hm : n = 65536 * r + m) : c + P * m + P * 65536 * r = p + P * x + (q + P * y) := by
  have e : P * n = P * (65536 * r) + P * m := by rw [hm, Int.mul_add]
  have e2 : P * n = P * x + P * y + P * d := by rw [hn, Int.mul_add, Int.mul_add]
  rw [Int.mul_assoc]
  omega

theorem plus_loop (a b : List Int) (ha : dok a) (hb : dok b) (M : Nat) (hla : a.length ≤ M) (hlb : b.length ≤ M) (hM : M < 4294967296) (d : Nat) :
    ∀ (i : Nat) (out : List Int) (carry : Int), M + 2 - i = d → out.length = i → i ≤ M + 1 → dok out → 0 ≤ carry → carry ≤ 1 → (M < i → carry = 0) → (M < i → 65536 ^ M ≤ dv out) →
      dv out + 65536 ^ i * carry = dv (a.take i) + dv (b.take i) →
      ∃ r, Ev (fun k => regimenref02_Plus.l0 k a b out carry (i : Int)) r ∧ dok r ∧ dv r = dv a + dv b ∧ r.length ≤ M + 1 ∧ (M < r.length → 65536 ^ M ≤ dv r) := by
  induction d with
  | zero => intro i out carry hd hlen hi; omega
  | succ d ih =>
  intro i out carry hd hlen hi hout hc0 hc1 hM2 hM3 hv
  by_cases hgo : i < a.length ∨ i < b.length ∨ carry > 0
  · have h1 := dok_getD ha i
    have h2 := dok_getD hb i
    have hz1 : M < i + 1 → a.getD i 0 = 0 := fun h => getD_out a i (by omega)
    have hz2 : M < i + 1 → b.getD i 0 = 0 := fun h => getD_out b i (by omega)
    generalize hA : a.getD i 0 = A at h1 hz1
    generalize hB : b.getD i 0 = B at h2 hz2
    obtain ⟨r, hr, p⟩ := ih (i + 1) (out ++ [(A + B + carry) % 65536]) ((A + B + carry) / 65536) (by omega) (by simp [hlen]) (by omega) (dok_snoc hout (by omega)) (by omega) (by omega)
      (fun h => by have := hz1 h; have := hz2 h; omega) (fun h => by
        have e1 := hz1 h
        have e2 := hz2 h
        have e3 := hM2
        have hi : i = M := by omega
        have e4 : carry = 1 := by omega
        rw [dv_snoc, hlen, hi, e1, e2, e4]
        have := dv_nonneg hout
        have e5 : ((0 : Int) + 0 + 1) % 65536 = 1 := by decide
        rw [e5, Int.mul_one]
        omega) (by
        rw [dv_snoc, hlen, dv_take_succ, dv_take_succ, Int.pow_succ, hA, hB]
        exact plus_step hv rfl (by omega))
    refine ⟨r, ?_, p⟩
    refine Ev.step (f := fun k => regimenref02_Plus.j1 k a b out carry (i : Int) true) ?_ ?_
    · intro k
      simp only [regimenref02_Plus.l0]
      by_cases c1 : (i : Int) < (a.length : Int)
      · rw [if_pos c1]
      · rw [if_neg c1]
        by_cases c2 : (i : Int) < (b.length : Int)
        · rw [if_pos c2]
        · rw [if_neg c2, decide_eq_true (by omega)]
    · refine Ev.step (f := fun k => regimenref02_Plus.l0 k a b (out ++ [(A + B + carry) % 65536]) ((A + B + carry) / 65536) ((i + 1 : Nat) : Int)) ?_ hr
      intro k
      simp only [regimenref02_Plus.j1, if_true, digit_at, Option.bind_some, hA, hB]
      rw [if_pos (by omega), u64_id (x := A + B) (by omega) (by omega), u64_id (x := A + B + carry) (by omega) (by omega), tmod_pos (by omega), tdiv_pos (by omega), u64_id (x := (A + B + carry) / 65536) (by omega) (by omega), w64_succ (by omega)]
  · refine ⟨out, ?_, hout, ?_, by omega, by rw [hlen]; exact hM3⟩
    · refine Ev.step (f := fun k => regimenref02_Plus.j1 k a b out carry (i : Int) false) ?_ ?_
      · intro k
        simp only [regimenref02_Plus.l0]
        rw [if_neg (by omega), if_neg (by omega), decide_eq_false (by omega)]
      · exact Ev.step (f := fun _ => some out) (fun k => by simp [regimenref02_Plus.j1]) (Ev.now _)
    · have : carry = 0 := by omega
      rw [this, dv_take_all a i (by omega), dv_take_all b i (by omega)] at hv
      omega

theorem plus_t (a b : List Int) (ha : dok a) (hb : dok b) (M : Nat) (hla : a.length ≤ M) (hlb : b.length ≤ M) (hM : M < 4294967296) :
    ∃ r, Ev (fun k => regimenref02_Plus.f k a b) r ∧ dok r ∧ dv r = dv a + dv b ∧ r.length ≤ M + 1 ∧ (M < r.length → 65536 ^ M ≤ dv r) := by
  have := plus_loop a b ha hb M hla hlb hM (M + 2) 0 [] 0 (by omega) rfl (by omega) dok_nil (by omega) (by omega) (by omega) (by omega) (by simp [dv])
  exact this
theorem plus_ok (a b : List Int) (ha : dok a) (hb : dok b) (M : Nat) (hla : a.length ≤ M) (hlb : b.length ≤ M) (hM : M < 4294967296) :
    ∃ r, Ev (fun k => regimenref02_Plus.f k a b) r ∧ dok r ∧ dv r = dv a + dv b ∧ r.length ≤ M + 1 := by
  obtain ⟨r, h1, h2, h3, h4, _⟩ := plus_t a b ha hb M hla hlb hM
  exact ⟨r, h1, h2, h3, h4⟩
def tg (l : List Int) : Prop := l.length ≤ 1 ∨ 65536 ^ (l.length - 1) ≤ dv l
theorem p16_mono {m n : Nat} (h : m ≤ n) : (65536 : Int) ^ m ≤ 65536 ^ n := by
  obtain ⟨d, rfl⟩ := Nat.exists_eq_add_of_le h
  rw [Int.pow_add]
  have h1 := pow_pos' m
  have h2 := pow_pos' d
  have := Int.mul_le_mul_of_nonneg_left (show (1 : Int) ≤ 65536 ^ d from h2) (Int.le_of_lt h1)
  omega
theorem tg_plus (a b : List Int) (ha : dok a) (hb : dok b) (ta : tg a) (tb : tg b) (hla : a.length < 4000000000) (hlb : b.length < 4000000000) (N : Nat) (hN1 : a.length ≤ N) (hN2 : b.length ≤ N) :
    ∃ r, Ev (fun k => regimenref02_Plus.f k a b) r ∧ dok r ∧ dv r = dv a + dv b ∧ r.length ≤ N + 1 ∧ tg r := by
  obtain ⟨r, h1, h2, h3, h4, h5⟩ := plus_t a b ha hb (max a.length b.length) (by omega) (by omega) (by omega)
  refine ⟨r, h1, h2, h3, by omega, ?_⟩
  have na := dv_nonneg ha
  have nb := dv_nonneg hb
  by_cases c : max a.length b.length < r.length
  · right
    have := h5 c
    rwa [show r.length - 1 = max a.length b.length from by omega]
  · by_cases c1 : r.length ≤ 1
    · exact .inl c1
    · right
      by_cases c2 : a.length ≤ b.length
      · rcases tb with t | t
        · omega
        · have := p16_mono (m := r.length - 1) (n := b.length - 1) (by omega)
          omega
      · rcases ta with t | t
        · omega
        · have := p16_mono (m := r.length - 1) (n := a.length - 1) (by omega)
          omega
theorem tg_len {l : List Int} (h : tg l) {n : Nat} (hv : dv l < 65536 ^ n) : l.length ≤ n + 1 := by
  rcases h with h | h
  · omega
  · rcases Nat.lt_or_ge n (l.length - 1) with c | c
    · have := p16_mono (m := n) (n := l.length - 1) (by omega)
      omega
    · omega

theorem less_step {c d p q P x y n m r : Int} (h : c - P * d = p - q) (hn : n = 65536 + x - y - d) (hm : n = 65536 * r + m) : c + P * m - P * 65536 * (1 - r) = p + P * x - (q + P * y) := by
  have e : P * n = P * (65536 * r) + P * m := by rw [hm, Int.mul_add]
  have e2 : P * n = P * 65536 + P * x - P * y - P * d := by rw [hn, Int.mul_sub, Int.mul_sub, Int.mul_add]
  rw [Int.mul_sub, Int.mul_assoc, Int.mul_assoc]
  omega

theorem less_loop (a b : List Int) (ha : dok a) (hb : dok b) (hla : a.length < 4294967296) (d : Nat) :
    ∀ (i : Nat) (out : List Int) (bor : Int), a.length - i = d → out.length = i → i ≤ a.length → dok out → 0 ≤ bor → bor ≤ 1 →
      dv out - 65536 ^ i * bor = dv (a.take i) - dv (b.take i) →
      ∃ r c, Ev (fun k => regimenref02_Less.l0 k a b out bor (i : Int)) r ∧ dok r ∧ 0 ≤ c ∧ c ≤ 1 ∧ dv r - 65536 ^ a.length * c = dv a - dv (b.take a.length) ∧ r.length = a.length := by
  induction d with
  | zero =>
    intro i out bor hd hlen hi hout h0 h1 hv
    have : i = a.length := by omega
    subst this
    refine ⟨out, bor, ?_, hout, h0, h1, ?_, hlen⟩
    · refine Ev.step (f := fun _ => some out) (fun k => ?_) (Ev.now _)
      simp only [regimenref02_Less.l0]
      rw [if_neg (by omega)]
    · rw [dv_take_all a a.length (Nat.le_refl _)] at hv
      exact hv
  | succ d ih =>
    intro i out bor hd hlen hi hout h0 h1 hv
    have h2 := dok_getD ha i
    have h3 := dok_getD hb i
    generalize hA : a.getD i 0 = A at h2
    generalize hB : b.getD i 0 = B at h3
    obtain ⟨r, c, hr, p⟩ := ih (i + 1) (out ++ [(65536 + A - B - bor) % 65536]) (1 - (65536 + A - B - bor) / 65536) (by omega) (by simp [hlen]) (by omega) (dok_snoc hout (by omega)) (by omega) (by omega) (by
        rw [dv_snoc, hlen, dv_take_succ, dv_take_succ, Int.pow_succ, hA, hB]
        exact less_step hv rfl (by omega))
    refine ⟨r, c, ?_, p⟩
    refine Ev.step (f := fun k => regimenref02_Less.l0 k a b (out ++ [(65536 + A - B - bor) % 65536]) (1 - (65536 + A - B - bor) / 65536) ((i + 1 : Nat) : Int)) ?_ hr
    intro k
    simp only [regimenref02_Less.l0]
    rw [if_pos (by omega), if_pos (by omega), digit_at]
    simp only [Option.bind_some, rd_nat, hA, hB]
    rw [if_pos (by omega), u64_id (x := 65536 + A) (by omega) (by omega), u64_id (x := 65536 + A - B) (by omega) (by omega), u64_id (x := 65536 + A - B - bor) (by omega) (by omega), tmod_pos (by omega), tdiv_pos (by omega), u64_id (x := (65536 + A - B - bor) / 65536) (by omega) (by omega), u64_id (x := 1 - (65536 + A - B - bor) / 65536) (by omega) (by omega), w64_succ (by omega)]

theorem less_ok (a b : List Int) (ha : dok a) (hb : dok b) (hla : a.length < 4294967296) (hle : dv b ≤ dv a) :
    ∃ r, Ev (fun k => regimenref02_Less.f k a b) r ∧ dok r ∧ dv r = dv a - dv b ∧ r.length = a.length := by
  obtain ⟨r, c, hr, dr, c0, c1, hv, hl⟩ := less_loop a b ha hb hla a.length 0 [] 0 (by omega) rfl (by omega) dok_nil (by omega) (by omega) (by simp [dv])
  refine ⟨r, hr, dr, ?_, hl⟩
  have hb2 : dv (b.take a.length) = dv b := by
    by_cases hl2 : b.length ≤ a.length
    · exact dv_take_all b _ hl2
    · have h1 := dv_split b a.length (by omega)
      have h2 := dv_lt ha
      have h3 := dv_take_lt hb a.length
      have h4 : 0 ≤ dv (b.drop a.length) := dv_nonneg (fun y hy => hb y (List.mem_of_mem_drop hy))
      have h5 : dv (b.drop a.length) = 0 := by
        by_cases h6 : 1 ≤ dv (b.drop a.length)
        · have := Int.mul_le_mul_of_nonneg_left h6 (Int.le_of_lt (pow_pos' a.length))
          omega
        · omega
      rw [h5] at h1
      omega
  have h7 := dv_lt dr
  have h8 := dv_lt ha
  have h9 := dv_nonneg hb
  have hc : c = 0 := by
    by_cases h : c = 1
    · rw [hl] at h7
      rw [h, hb2] at hv
      omega
    · omega
  rw [hc, hb2] at hv
  omega

theorem cmp_loop (a b : List Int) (ha : dok a) (hb : dok b) (d : Nat) : ∀ (i : Int), i + 1 = d → i < 4294967296 → dv a - dv b = dv (a.take d) - dv (b.take d) →
    Ev (fun k => regimenref02_Cmp.l0 k a b i) (if dv a < dv b then -1 else if dv a > dv b then 1 else 0) := by
  induction d with
  | zero =>
    intro i hi _ hv
    have : dv a = dv b := by simp [dv] at hv; omega
    rw [if_neg (by omega), if_neg (by omega)]
    refine Ev.step (f := fun _ => some 0) (fun k => ?_) (Ev.now _)
    simp only [regimenref02_Cmp.l0]
    rw [if_neg (by omega)]
  | succ d ih =>
    intro i hi hi2 hv
    have hid : i = (d : Int) := by omega
    subst hid
    have h1 := dok_getD ha d
    have h2 := dok_getD hb d
    have h3 := dv_take_lt ha d
    have h4 := dv_take_lt hb d
    rw [dv_take_succ, dv_take_succ] at hv
    generalize hA : a.getD d 0 = A at h1 hv
    generalize hB : b.getD d 0 = B at h2 hv
    by_cases c1 : A < B
    · have : 65536 ^ d * (A + 1) ≤ 65536 ^ d * B := Int.mul_le_mul_of_nonneg_left (by omega) (Int.le_of_lt (pow_pos' d))
      rw [Int.mul_add] at this
      rw [if_pos (by omega)]
      refine Ev.step (f := fun _ => some (-1)) (fun k => ?_) (Ev.now _)
      simp only [regimenref02_Cmp.l0]
      rw [if_pos (by omega), digit_at, digit_at]
      simp only [Option.bind_some, hA, hB]
      rw [if_pos c1]
    · by_cases c2 : A > B
      · have : 65536 ^ d * (B + 1) ≤ 65536 ^ d * A := Int.mul_le_mul_of_nonneg_left (by omega) (Int.le_of_lt (pow_pos' d))
        rw [Int.mul_add] at this
        rw [if_neg (by omega), if_pos (by omega)]
        refine Ev.step (f := fun _ => some 1) (fun k => ?_) (Ev.now _)
        simp only [regimenref02_Cmp.l0]
        rw [if_pos (by omega), digit_at, digit_at]
        simp only [Option.bind_some, hA, hB]
        rw [if_neg c1, if_pos c2]
      · have hAB : A = B := by omega
        subst hAB
        refine Ev.step (f := fun k => regimenref02_Cmp.l0 k a b ((d : Int) - 1)) (fun k => ?_) (ih ((d : Int) - 1) (by omega) (by omega) (by omega))
        simp only [regimenref02_Cmp.l0]
        rw [if_pos (by omega), digit_at, digit_at]
        simp only [Option.bind_some, hA, hB]
        rw [if_neg c1, if_neg c2, w64_id (by omega) (by omega)]

theorem cmp_ok (a b : List Int) (ha : dok a) (hb : dok b) (hla : a.length < 4294967296) (hlb : b.length < 4294967296) :
    Ev (fun k => regimenref02_Cmp.f k a b) (if dv a < dv b then -1 else if dv a > dv b then 1 else 0) := by
  have key : ∀ n : Nat, a.length ≤ n → b.length ≤ n → n < 4294967296 → Ev (fun k => regimenref02_Cmp.j0 k a b (n : Int)) (if dv a < dv b then -1 else if dv a > dv b then 1 else 0) := by
    intro n h1 h2 h3
    refine Ev.step (f := fun k => regimenref02_Cmp.l0 k a b ((n : Int) - 1)) (fun k => ?_) (cmp_loop a b ha hb n _ (by omega) (by omega) ?_)
    · simp only [regimenref02_Cmp.j0]
      rw [w64_id (by omega) (by omega)]
    · rw [dv_take_all a n h1, dv_take_all b n h2]
  by_cases h : (b.length : Int) > (a.length : Int)
  · exact Ev.congr (fun k => by unfold regimenref02_Cmp.f; rw [if_pos h]) (key b.length (by omega) (Nat.le_refl _) hlb)
  · exact Ev.congr (fun k => by unfold regimenref02_Cmp.f; rw [if_neg h]) (key a.length (Nat.le_refl _) (by omega) hla)

theorem times_step {P Q X A B V c o n m r : Int} (h : X + c * (P * Q) = V + P * A * B) (bk : Int) (hn : n = o + A * bk + c) (hm : n = 65536 * r + m) :
    X + P * Q * (m - o) + r * (P * (Q * 65536)) = V + P * A * (B + Q * bk) := by
  have e1 : P * Q * n = P * Q * (65536 * r) + P * Q * m := by rw [hm, Int.mul_add]
  have e2 : P * Q * n = P * Q * o + P * Q * (A * bk) + P * Q * c := by rw [hn, Int.mul_add, Int.mul_add]
  have e3 : P * A * (Q * bk) = P * Q * (A * bk) := by rw [Int.mul_assoc, Int.mul_assoc, Int.mul_left_comm A Q bk]
  have e4 : r * (P * (Q * 65536)) = P * Q * (65536 * r) := by rw [Int.mul_comm r, Int.mul_assoc, Int.mul_assoc, Int.mul_assoc]
  rw [Int.mul_sub, Int.mul_add, e3, e4]
  rw [Int.mul_comm c] at h
  omega

theorem times_in (a b : List Int) (ha : dok a) (hb : dok b) (hla : a.length < 4294967296) (hlb : b.length < 4294967296) (i : Nat) (hi : i < a.length) (Q : List Int → Prop)
    (H : ∀ out : List Int, dok out → out.length = a.length + b.length → dv out = dv (a.take (i + 1)) * dv b → (∀ j, i + 1 + b.length ≤ j → out.getD j 0 = 0) → ∃ r, Ev (fun k => regimenref02_Times.l0 k a b out ((i + 1 : Nat) : Int)) r ∧ Q r) (d : Nat) :
    ∀ (j : Nat) (out : List Int) (c : Int), b.length - j = d → j ≤ b.length → dok out → out.length = a.length + b.length → 0 ≤ c → c < 65536 → (∀ q, i + b.length ≤ q → out.getD q 0 = 0) →
      dv out + c * 65536 ^ (i + j) = dv (a.take i) * dv b + 65536 ^ i * a.getD i 0 * dv (b.take j) →
      ∃ r, Ev (fun k => regimenref02_Times.l1 k a b out (i : Int) c (j : Int)) r ∧ Q r := by
  have h1 := dok_getD ha i
  generalize hA : a.getD i 0 = A at h1
  induction d with
  | zero =>
    intro j out c hd hj hout hlen hc0 hc1 hz hv
    obtain rfl : j = b.length := by omega
    have hzz := hz (i + b.length) (Nat.le_refl _)
    obtain ⟨r, hr, hq⟩ := H (out.set (i + b.length) c) (dok_set hout _ ⟨hc0, hc1⟩) (by rw [List.length_set]; exact hlen) (by
        rw [dv_set _ _ _ (by omega), hzz, dv_take_succ, hA, Int.sub_zero, Int.mul_comm _ c, hv, dv_take_all b _ (Nat.le_refl _), Int.add_mul]) (by
        intro q hq
        rw [List.getD_eq_getElem?_getD, List.getElem?_set_ne (by omega), ← List.getD_eq_getElem?_getD]
        exact hz q (by omega))
    refine ⟨r, ?_, hq⟩
    refine Ev.step (f := fun k => regimenref02_Times.l0 k a b (out.set (i + b.length) c) ((i + 1 : Nat) : Int)) ?_ hr
    intro k
    simp only [regimenref02_Times.l1]
    rw [if_neg (by omega), w64_add (by omega) (by omega), if_pos (by omega), if_pos (by omega), w64_succ (by omega), rd_nat, hzz, Int.zero_add, u64_id hc0 (by omega), Int.toNat_natCast]
  | succ d ih =>
    intro j out c hd hj hout hlen hc0 hc1 hz hv
    have h2 := dok_getD hb j
    have h3 := dok_getD hout (i + j)
    generalize hB : b.getD j 0 = B at h2
    generalize hO : out.getD (i + j) 0 = O at h3
    have hm := mul_bd (M := 65535) (N := 65535) h1.1 (by omega) h2.1 (by omega)
    obtain ⟨r, hr, hq⟩ := ih (j + 1) (out.set (i + j) ((O + A * B + c) % 65536)) ((O + A * B + c) / 65536) (by omega) (by omega) (dok_set hout _ (by omega)) (by rw [List.length_set]; exact hlen) (by omega) (by omega) (by
        intro q hq
        rw [List.getD_eq_getElem?_getD, List.getElem?_set_ne (by omega), ← List.getD_eq_getElem?_getD]
        exact hz q hq) (by
        rw [dv_set _ _ _ (by omega), hO, dv_take_succ, hB, Int.pow_add, show i + (j + 1) = i + j + 1 from rfl, Int.pow_succ, Int.pow_add, Int.mul_assoc (65536 ^ i) (65536 ^ j) 65536]
        rw [Int.pow_add] at hv
        exact times_step hv B rfl (by omega))
    refine ⟨r, ?_, hq⟩
    refine Ev.step (f := fun k => regimenref02_Times.l1 k a b (out.set (i + j) ((O + A * B + c) % 65536)) (i : Int) ((O + A * B + c) / 65536) ((j + 1 : Nat) : Int)) ?_ hr
    intro k
    simp only [regimenref02_Times.l1]
    rw [if_pos (by omega), w64_add (by omega) (by omega), if_pos (by omega), if_pos (by omega), if_pos (by omega), if_pos (by omega), if_pos (by omega), rd_nat, rd_nat, rd_nat, hA, hB, hO, u64_id (x := A * B) (by omega) (by omega), u64_id (x := O + A * B) (by omega) (by omega), u64_id (x := O + A * B + c) (by omega) (by omega), tmod_pos (by omega), tdiv_pos (by omega), u64_id (x := (O + A * B + c) / 65536) (by omega) (by omega), w64_succ (by omega), Int.toNat_natCast]

theorem times_loop (a b : List Int) (ha : dok a) (hb : dok b) (hla : a.length < 4294967296) (hlb : b.length < 4294967296) (d : Nat) :
    ∀ (i : Nat) (out : List Int), a.length - i = d → i ≤ a.length → dok out → out.length = a.length + b.length → dv out = dv (a.take i) * dv b → (∀ j, i + b.length ≤ j → out.getD j 0 = 0) →
      ∃ r, Ev (fun k => regimenref02_Times.l0 k a b out (i : Int)) r ∧ dok r ∧ dv r = dv a * dv b ∧ r.length = a.length + b.length := by
  induction d with
  | zero =>
    intro i out hd hi hout hlen hv hz
    refine ⟨out, ?_, hout, ?_, hlen⟩
    · refine Ev.step (f := fun _ => some out) (fun k => ?_) (Ev.now _)
      simp only [regimenref02_Times.l0]
      rw [if_neg (by omega)]
    · rw [hv, dv_take_all a i (by omega)]
  | succ d ih =>
    intro i out hd hi hout hlen hv hz
    obtain ⟨r, hr, hq⟩ := times_in a b ha hb hla hlb i (by omega) (fun r => dok r ∧ dv r = dv a * dv b ∧ r.length = a.length + b.length)
      (fun out' g1 g2 g3 g4 => ih (i + 1) out' (by omega) (by omega) g1 g2 g3 g4) b.length 0 out 0 (by omega) (by omega) hout hlen (by omega) (by omega) hz (by simp [dv, hv])
    refine ⟨r, ?_, hq⟩
    refine Ev.step (f := fun k => regimenref02_Times.l1 k a b out (i : Int) 0 0) (fun k => ?_) hr
    simp only [regimenref02_Times.l0]
    rw [if_pos (by omega)]

theorem times_ok (a b : List Int) (ha : dok a) (hb : dok b) (hla : a.length < 4294967296) (hlb : b.length < 4294967296) :
    ∃ r, Ev (fun k => regimenref02_Times.f k a b) r ∧ dok r ∧ dv r = dv a * dv b ∧ r.length = a.length + b.length := by
  obtain ⟨r, hr, h⟩ := times_loop a b ha hb hla hlb a.length 0 (List.replicate (a.length + b.length) 0) (by omega) (by omega) (dok_rep _) (by simp) (by simp [dv_rep, dv]) (fun j _ => by
    rw [List.getD_eq_getElem?_getD, List.getElem?_replicate]
    split <;> rfl)
  refine ⟨r, ?_, h⟩
  refine Ev.congr (fun k => ?_) hr
  unfold regimenref02_Times.f
  rw [w64_add (by omega) (by omega), if_pos (by omega), Int.toNat_natCast, if_pos (by omega)]
  rfl

theorem twos_loop (n : Int) (hn : n ≤ 1048576) (d : Nat) : ∀ (i : Nat) (out : List Int), (n - i).toNat = d → (i = 0 ∨ (i : Int) ≤ n) → dok out → dv out = 2 ^ i → out.length ≤ i + 1 →
    ∃ r, Ev (fun k => regimenref02_Twos.l0 k n out (i : Int)) r ∧ dok r ∧ dv r = 2 ^ n.toNat ∧ r.length ≤ n.toNat + 1 := by
  induction d with
  | zero =>
    intro i out hd hi hout hv hl
    have e : i = n.toNat := by omega
    refine ⟨out, ?_, hout, by rw [hv, e], by omega⟩
    refine Ev.step (f := fun _ => some out) (fun k => ?_) (Ev.now _)
    simp only [regimenref02_Twos.l0]
    rw [if_neg (by omega)]
  | succ d ih =>
    intro i out hd hi hout hv hl
    obtain ⟨s, hs, ds, vs, ls⟩ := plus_ok out out hout hout (i + 1) hl hl (by omega)
    obtain ⟨r, hr, p⟩ := ih (i + 1) s (by omega) (by omega) ds (by rw [vs, hv, Int.pow_succ]; omega) (by omega)
    refine ⟨r, ?_, p⟩
    refine Ev.step (f := fun k => (regimenref02_Plus.f k out out).bind fun t => regimenref02_Twos.l0 k n t ((i + 1 : Nat) : Int)) (fun k => ?_) (Ev.bind hs hr)
    simp only [regimenref02_Twos.l0]
    rw [if_pos (by omega), w64_succ (by omega)]
theorem twos_ok (n : Int) (hn : n ≤ 1048576) : ∃ r, Ev (fun k => regimenref02_Twos.f k n) r ∧ dok r ∧ dv r = 2 ^ n.toNat ∧ r.length ≤ n.toNat + 1 := by
  obtain ⟨r, hr, h⟩ := twos_loop n hn (n - (0 : Nat)).toNat 0 [1] rfl (.inl rfl) (dok_cons (by omega) dok_nil) (by simp [dv]) (by simp)
  exact ⟨r, hr, h⟩

theorem mod_ok (l : List Int) (hl : dok l) : Ev (fun k => regimenref02_Mod.f k l) (dv l / 18446744073709551616 % 18446744073709551616, dv l % 18446744073709551616) := by
  have d0 := dok_getD hl 0
  have d1 := dok_getD hl 1
  have d2 := dok_getD hl 2
  have d3 := dok_getD hl 3
  have d4 := dok_getD hl 4
  have d5 := dok_getD hl 5
  have d6 := dok_getD hl 6
  have d7 := dok_getD hl 7
  have hq : ∃ q, dv l = dv (l.take 8) + 340282366920938463463374607431768211456 * q := by
    by_cases h : 8 ≤ l.length
    · exact ⟨_, dv_split l 8 h⟩
    · exact ⟨0, by rw [dv_take_all l 8 (by omega)]; simp⟩
  obtain ⟨q, hq⟩ := hq
  have hv : dv (l.take 8) = _ := dv_take_succ l 7
  rw [dv_take_succ l 6, dv_take_succ l 5, dv_take_succ l 4, dv_take_succ l 3, dv_take_succ l 2, dv_take_succ l 1, dv_take_succ l 0] at hv
  simp only [List.take_zero, dv, Int.reducePow] at hv
  have e : ∀ i : Nat, regimenref02_digit.f l (i : Int) = some (l.getD i 0) := digit_at l
  have e7 := e 7
  have e6 := e 6
  have e5 := e 5
  have e4 := e 4
  have e3 := e 3
  have e2 := e 2
  have e1 := e 1
  have e0 := e 0
  generalize l.getD 0 0 = x0 at *
  generalize l.getD 1 0 = x1 at *
  generalize l.getD 2 0 = x2 at *
  generalize l.getD 3 0 = x3 at *
  generalize l.getD 4 0 = x4 at *
  generalize l.getD 5 0 = x5 at *
  generalize l.getD 6 0 = x6 at *
  generalize l.getD 7 0 = x7 at *
  have hstep : ∀ (i : Int) (P Q x : Int), i ≥ 4 → i < 100 → regimenref02_digit.f l i = some x → 0 ≤ P → P < 281474976710656 → 0 ≤ x → x < 65536 → ∀ r, Ev (fun k => regimenref02_Mod.l0 k l (i - 1) (P * 65536 + x) Q) r → Ev (fun k => regimenref02_Mod.l0 k l i P Q) r := by
    intro i P Q x h1 h2 hx p0 p1 x0 x1 r h
    refine Ev.step (f := fun k => regimenref02_Mod.l0 k l (i - 1) (P * 65536 + x) Q) (fun k => ?_) h
    simp only [regimenref02_Mod.l0]
    rw [if_pos (by omega), if_pos h1, hx]
    simp only [Option.bind_some]
    rw [w64_id (by omega) (by omega), u64_id (x := P * 65536) (by omega) (by omega), u64_id (by omega) (by omega)]
  have lstep : ∀ (i : Int) (P Q x : Int), i ≥ 0 → i < 4 → regimenref02_digit.f l i = some x → 0 ≤ Q → Q < 281474976710656 → 0 ≤ x → x < 65536 → ∀ r, Ev (fun k => regimenref02_Mod.l0 k l (i - 1) P (Q * 65536 + x)) r → Ev (fun k => regimenref02_Mod.l0 k l i P Q) r := by
    intro i P Q x h1 h2 hx p0 p1 x0 x1 r h
    refine Ev.step (f := fun k => regimenref02_Mod.l0 k l (i - 1) P (Q * 65536 + x)) (fun k => ?_) h
    simp only [regimenref02_Mod.l0]
    rw [if_pos h1, if_neg (by omega), hx]
    simp only [Option.bind_some]
    rw [w64_id (by omega) (by omega), u64_id (x := Q * 65536) (by omega) (by omega), u64_id (by omega) (by omega)]
  unfold regimenref02_Mod.f
  refine hstep 7 _ _ x7 (by omega) (by omega) e7 (by omega) (by omega) (by omega) (by omega) _ ?_
  refine hstep 6 _ _ x6 (by omega) (by omega) e6 (by omega) (by omega) (by omega) (by omega) _ ?_
  refine hstep 5 _ _ x5 (by omega) (by omega) e5 (by omega) (by omega) (by omega) (by omega) _ ?_
  refine hstep 4 _ _ x4 (by omega) (by omega) e4 (by omega) (by omega) (by omega) (by omega) _ ?_
  refine lstep 3 _ _ x3 (by omega) (by omega) e3 (by omega) (by omega) (by omega) (by omega) _ ?_
  refine lstep 2 _ _ x2 (by omega) (by omega) e2 (by omega) (by omega) (by omega) (by omega) _ ?_
  refine lstep 1 _ _ x1 (by omega) (by omega) e1 (by omega) (by omega) (by omega) (by omega) _ ?_
  refine lstep 0 _ _ x0 (by omega) (by omega) e0 (by omega) (by omega) (by omega) (by omega) _ ?_
  refine Ev.step (f := fun _ => some _) (fun k => ?_) (Ev.now _)
  simp only [regimenref02_Mod.l0]
  rw [if_neg (by omega)]
  congr 1
  rw [Prod.mk.injEq]
  constructor <;> omega
end Go.Proofs.YtcgdhpnobgimfaaGreatDoor.Num
end
section
namespace Go.Proofs.YtcgdhpnobgimfaaGreatDoor.Num
open Go.RowKit Go.Proofs.YtcgdhpnobgimfaaGreatDoor.PB Go.Proofs.YtcgdhpnobgimfaaGreatDoorW.PrintWords Go.Proofs.YtcgdhpnobgimfaaGreatDoorW.PrintMore

theorem wraps_u64 (n : Int) (h₀ : 0 ≤ n) (h₁ : n < 2 ^ 64) : IntKind.u64.wrap n = n := u64_id h₀ (by simpa using h₁)
theorem u64_lo32 {x : Int} (h0 : 0 ≤ x) (h1 : x < 18446744073709551616) : Go.bits .and .u64 x 4294967295 = x % 4294967296 := by
  have := bits_mask .u64 64 (by decide) wraps_u64 32 (by decide) x h0 (by simpa using h1)
  simpa using this
theorem u64_join (i : Nat) {x y : Int} (h0 : 0 ≤ x) (h : x % 2 ^ i = 0) (h1 : x < 18446744073709551616) (h2 : 0 ≤ y) (h3 : y < 2 ^ i) (h4 : y < 18446744073709551616) : Go.bits .or .u64 x y = x + y :=
  bits_join .u64 64 (by decide) wraps_u64 i x y h0 h (by simpa using h1) h2 h3 (by simpa using h4)

theorem pair_mul_ok {x y : Int} (hx0 : 0 ≤ x) (hx : x < 18446744073709551616) (hy0 : 0 ≤ y) (hy : y < 18446744073709551616) :
    pair_Mul.f x y = some (x * y / 18446744073709551616, x * y % 18446744073709551616) := by
  unfold pair_Mul.f
  rw [u64_lo32 hx0 hx, u64_lo32 hy0 hy]
  have ha : 0 ≤ x / 4294967296 ∧ x / 4294967296 ≤ 4294967295 := by omega
  have hb : 0 ≤ x % 4294967296 ∧ x % 4294967296 ≤ 4294967295 := by omega
  have hc : 0 ≤ y / 4294967296 ∧ y / 4294967296 ≤ 4294967295 := by omega
  have hd : 0 ≤ y % 4294967296 ∧ y % 4294967296 ≤ 4294967295 := by omega
  have e : x * y = (x / 4294967296) * (y / 4294967296) * 18446744073709551616 + ((x / 4294967296) * (y % 4294967296) + (x % 4294967296) * (y / 4294967296)) * 4294967296 + (x % 4294967296) * (y % 4294967296) := by
    have e1 : x = (x / 4294967296) * 4294967296 + x % 4294967296 := by omega
    have e2 : y = (y / 4294967296) * 4294967296 + y % 4294967296 := by omega
    generalize x / 4294967296 = a at *
    generalize x % 4294967296 = b at *
    generalize y / 4294967296 = c at *
    generalize y % 4294967296 = d at *
    rw [e1, e2, Int.mul_add, Int.add_mul, Int.add_mul, Int.add_mul]
    have f1 : a * 4294967296 * (c * 4294967296) = a * c * 18446744073709551616 := by
      rw [Int.mul_assoc a, Int.mul_left_comm 4294967296 c, ← Int.mul_assoc a c]
      simp only [Int.reduceMul]
    have f2 : b * (c * 4294967296) = b * c * 4294967296 := by rw [Int.mul_assoc]
    have f3 : a * 4294967296 * d = a * d * 4294967296 := by rw [Int.mul_assoc a, Int.mul_comm 4294967296 d, ← Int.mul_assoc]
    omega
  have p1 := mul_bd ha.1 ha.2 hc.1 hc.2
  have p2 := mul_bd ha.1 ha.2 hd.1 hd.2
  have p3 := mul_bd hb.1 hb.2 hc.1 hc.2
  have p4 := mul_bd hb.1 hb.2 hd.1 hd.2
  rw [e]
  clear e
  generalize (x / 4294967296) * (y / 4294967296) = P at *
  generalize (x / 4294967296) * (y % 4294967296) = Q at *
  generalize (x % 4294967296) * (y / 4294967296) = R at *
  generalize (x % 4294967296) * (y % 4294967296) = S at *
  clear ha hb hc hd
  rw [u64_id (x := P) (by omega) (by omega), u64_id (x := Q) (by omega) (by omega), u64_id (x := R) (by omega) (by omega), u64_id (x := S) (by omega) (by omega)]
  rw [u64_lo32 (x := Q) (by omega) (by omega), u64_lo32 (x := R) (by omega) (by omega), u64_lo32 (x := S) (by omega) (by omega)]
  rw [u64_id (x := S / 4294967296 + Q % 4294967296) (by omega) (by omega), u64_id (x := S / 4294967296 + Q % 4294967296 + R % 4294967296) (by omega) (by omega)]
  rw [u64_id (x := P + Q / 4294967296) (by omega) (by omega), u64_id (x := P + Q / 4294967296 + R / 4294967296) (by omega) (by omega)]
  rw [u64_mod ((S / 4294967296 + Q % 4294967296 + R % 4294967296) * 4294967296), u64_id (by omega) (by omega)]
  rw [u64_join 32 (by omega) (by omega) (by omega) (by omega) (by omega) (by omega)]
  rw [Option.some.injEq, Prod.mk.injEq]
  constructor <;> omega

end Go.Proofs.YtcgdhpnobgimfaaGreatDoor.Num
end
section
namespace Go.Proofs.YtcgdhpnobgimfaaGreatDoor.Num
open Go.RowKit Go.Proofs.YtcgdhpnobgimfaaGreatDoor.PB Go.Proofs.YtcgdhpnobgimfaaGreatDoorW.PrintWords Go.Proofs.YtcgdhpnobgimfaaGreatDoorW.PrintMore
attribute [local irreducible] shl shr

def held (n : Int) : Nat := min n.toNat 128
theorem held_le (n : Int) : held n ≤ 128 := Nat.min_le_right _ _
theorem pair_held_ok (n : Int) : pair_held.f n = some (held n : Int) := by
  unfold pair_held.f held mn mx
  congr 1
  by_cases h : n < 0
  · rw [if_pos h]; split <;> omega
  · rw [if_neg h]; split <;> omega

theorem p2_pos (k : Nat) : (0 : Int) < 2 ^ k := Int.pow_pos (by decide)
theorem p2_pred {m : Nat} (h : 1 ≤ m) : (2 : Int) ^ m = 2 ^ (m - 1) * 2 := by
  obtain ⟨j, rfl⟩ : ∃ j, m = j + 1 := ⟨m - 1, by omega⟩
  exact Int.pow_succ _ _
theorem p2_split (k : Nat) (h : k ≤ 64) : (2 : Int) ^ k * 2 ^ (64 - k) = 18446744073709551616 := by
  rw [← Int.pow_add, show k + (64 - k) = 64 by omega]
  rfl
theorem shl64 {x : Int} {k : Nat} (h : k ≤ 64) : shl .u64 x (k : Int) = (x * 2 ^ k) % 18446744073709551616 := by
  unfold shl
  rw [u64_mod, Int.toNat_natCast, show IntKind.u64.bits = 64 from rfl, Nat.min_eq_left h]
theorem shr64 {x : Int} {k : Nat} (h : k ≤ 64) : shr .u64 x (k : Int) = x / 2 ^ k := by
  unfold shr
  rw [Int.toNat_natCast, show IntKind.u64.bits = 64 from rfl, Nat.min_eq_left h]

theorem u64_or_comm {x y : Int} (h0 : 0 ≤ x) (h1 : x < 18446744073709551616) (h2 : 0 ≤ y) (h3 : y < 18446744073709551616) : Go.bits .or .u64 x y = Go.bits .or .u64 y x := by
  rw [u64_or x y h0 h1 h2 h3, u64_or y x h2 h3 h0 h1, Nat.or_comm]
theorem cut_ex (a P : Int) (h : 0 < P) : a = P * (a / P) + a % P ∧ 0 ≤ a % P ∧ a % P < P :=
  ⟨(Int.mul_ediv_add_emod a P).symm, Int.emod_nonneg a (by omega), Int.emod_lt_of_pos a h⟩
theorem div_uniq {a P q r : Int} (h : a = P * q + r) (h0 : 0 ≤ r) (h1 : r < P) : a / P = q ∧ a % P = r := by
  have hP : 0 < P := by omega
  subst h
  constructor
  · rw [Int.add_comm, Int.add_mul_ediv_left _ _ (by omega), Int.ediv_eq_zero_of_lt h0 h1]; omega
  · rw [Int.add_comm, Int.add_mul_emod_self_left, Int.emod_eq_of_lt h0 h1]

theorem shr_parts {P Q a0 a1 s t u r : Int} (hPQ : P * Q = 18446744073709551616) (hP : 0 < P) (hQ : 0 < Q) (e0 : a0 = P * s + t) (t0 : 0 ≤ t) (t1 : t < P) (e1 : a1 = P * u + r) (r0 : 0 ≤ r) (r1 : r < P) (u0 : 0 ≤ u) (u1 : u < Q) :
    (a1 + 18446744073709551616 * a0) / P = 18446744073709551616 * s + (t * Q + u) ∧ 0 ≤ t * Q + u ∧ t * Q + u < 18446744073709551616 := by
  have h1 : t * Q + u < P * Q := by
    have : (t + 1) * Q ≤ P * Q := Int.mul_le_mul_of_nonneg_right (by omega) (by omega)
    rw [Int.add_mul, Int.one_mul] at this
    omega
  have h2 : 0 ≤ t * Q := Int.mul_nonneg t0 (by omega)
  refine ⟨(div_uniq (q := 18446744073709551616 * s + (t * Q + u)) (r := r) ?_ r0 r1).1, by omega, by omega⟩
  rw [← hPQ, e0, e1]
  have f1 : P * (P * Q * s + (t * Q + u)) = P * Q * (P * s) + P * Q * t + P * u := by
    rw [Int.mul_add, Int.mul_add]
    have g1 : P * (P * Q * s) = P * Q * (P * s) := by rw [Int.mul_comm P (P * Q * s), Int.mul_assoc (P * Q) s P, Int.mul_comm s P]
    have g2 : P * (t * Q) = P * Q * t := by rw [Int.mul_comm t Q, Int.mul_assoc]
    omega
  rw [f1, Int.mul_add]
  omega

theorem wrap_nat {k : Nat} (h : k < 1000) : IntKind.u64.wrap (k : Int) = (k : Int) := u64_id (by omega) (by omega)
theorem wrap_sub {k : Nat} (h : k ≤ 64) : IntKind.u64.wrap (64 - (k : Int)) = ((64 - k : Nat) : Int) := by
  rw [u64_id (by omega) (by omega)]; omega
theorem wrap_sub2 {k : Nat} (h : 64 ≤ k) (h2 : k ≤ 128) : IntKind.u64.wrap ((k : Int) - 64) = ((k - 64 : Nat) : Int) := by
  rw [u64_id (by omega) (by omega)]; omega

theorem pair_shr_ok {a0 a1 : Int} (n : Int) (h1 : 0 ≤ a0 ∧ a0 < 18446744073709551616) (h2 : 0 ≤ a1 ∧ a1 < 18446744073709551616) :
    pair_Shr.f a0 a1 n = some ((a1 + 18446744073709551616 * a0) / 2 ^ held n / 18446744073709551616, (a1 + 18446744073709551616 * a0) / 2 ^ held n % 18446744073709551616) := by
  unfold pair_Shr.f
  rw [pair_held_ok]
  have hk := held_le n
  generalize held n = k at *
  simp only [Option.bind_some]
  rw [wrap_nat (by omega)]
  by_cases c : (k : Int) ≥ 64
  · rw [if_pos c, wrap_sub2 (by omega) hk, if_pos (by omega), shr64 (by omega), Option.some.injEq, Prod.mk.injEq]
    have e : (2 : Int) ^ k = 18446744073709551616 * 2 ^ (k - 64) := by
      rw [show k = 64 + (k - 64) by omega, Int.pow_add, show 64 + (k - 64) - 64 = k - 64 by omega]
      rfl
    have e2 : (a1 + 18446744073709551616 * a0) / 18446744073709551616 = a0 := by omega
    have e3 : 0 ≤ a0 / 2 ^ (k - 64) := Int.ediv_nonneg h1.1 (Int.le_of_lt (p2_pos _))
    have e4 : a0 / 2 ^ (k - 64) ≤ a0 := Int.ediv_le_self _ h1.1
    rw [e, ← Int.ediv_ediv_of_nonneg (by omega), e2]
    constructor <;> omega
  · rw [if_neg c, if_pos (by omega), wrap_sub (by omega), if_pos (by omega), shr64 (by omega), shr64 (by omega), shl64 (by omega), Option.some.injEq, Prod.mk.injEq]
    have hP := p2_pos k
    have hQ := p2_pos (64 - k)
    have hPQ := p2_split k (by omega)
    obtain ⟨e0, t0, t1⟩ := cut_ex a0 (2 ^ k) hP
    obtain ⟨e1, r0, r1⟩ := cut_ex a1 (2 ^ k) hP
    have u0 : 0 ≤ a1 / 2 ^ k := Int.ediv_nonneg h2.1 (Int.le_of_lt hP)
    have u1 : a1 / 2 ^ k < 2 ^ (64 - k) := by
      apply Int.ediv_lt_of_lt_mul hP
      rw [Int.mul_comm, hPQ]; exact h2.2
    have hj := fun h1 h2 h3 h4 h5 => u64_join (64 - k) (x := (a0 * 2 ^ (64 - k)) % 18446744073709551616) (y := a1 / 2 ^ k) h1 h2 h3 u0 h4 h5
    generalize hPe : (2 : Int) ^ k = P at *
    generalize hQe : (2 : Int) ^ (64 - k) = Q at *
    obtain ⟨g1, g2, g3⟩ := shr_parts hPQ hP hQ e0 t0 t1 e1 r0 r1 u0 u1
    have e5 : a0 * Q = 18446744073709551616 * (a0 / P) + a0 % P * Q := by
      have : a0 * Q = (P * (a0 / P) + a0 % P) * Q := by rw [← e0]
      rw [this, Int.add_mul, Int.mul_right_comm, hPQ]
    have hx0 : 0 ≤ a0 % P * Q := Int.mul_nonneg t0 (by omega)
    have e6 : (a0 * Q) % 18446744073709551616 = a0 % P * Q := (div_uniq e5 hx0 (by omega)).2
    rw [e6] at hj ⊢
    have hmul : a0 % P * Q % Q = 0 := Int.mul_emod_left _ _
    rw [u64_or_comm u0 (Int.lt_of_le_of_lt (Int.ediv_le_self _ h2.1) h2.2) hx0 (by omega), hj hx0 hmul (by omega) u1 (Int.lt_of_le_of_lt (Int.ediv_le_self _ h2.1) h2.2), g1]
    clear hj e0 e1 e5 e6 g1 hPQ hPe hQe hmul
    generalize a0 % P * Q = Z at *
    generalize a1 / P = U at *
    generalize a0 / P = S at *
    constructor <;> omega

theorem pair_shl_ok {a0 a1 : Int} (n : Int) (h1 : 0 ≤ a0 ∧ a0 < 18446744073709551616) (h2 : 0 ≤ a1 ∧ a1 < 18446744073709551616) :
    pair_Shl.f a0 a1 n = some ((a1 + 18446744073709551616 * a0) * 2 ^ held n / 18446744073709551616 % 18446744073709551616, (a1 + 18446744073709551616 * a0) * 2 ^ held n % 18446744073709551616, decide ((a1 + 18446744073709551616 * a0) * 2 ^ held n < 340282366920938463463374607431768211456)) := by
  have hk := held_le n
  have hP := p2_pos (held n)
  have hback : ∀ hi lo : Int, hi = (a1 + 18446744073709551616 * a0) * 2 ^ held n / 18446744073709551616 % 18446744073709551616 → lo = (a1 + 18446744073709551616 * a0) * 2 ^ held n % 18446744073709551616 →
      (pair_Shr.f hi lo n).bind (fun bt => some (hi, lo, (bt.1 == a0 && (bt.2 == a1)))) = some ((a1 + 18446744073709551616 * a0) * 2 ^ held n / 18446744073709551616 % 18446744073709551616, (a1 + 18446744073709551616 * a0) * 2 ^ held n % 18446744073709551616, decide ((a1 + 18446744073709551616 * a0) * 2 ^ held n < 340282366920938463463374607431768211456)) := by
    intro hi lo e1 e2
    rw [pair_shr_ok n (by omega) (by omega)]
    simp only [Option.bind_some]
    rw [← e1, ← e2]
    have hV : 0 ≤ a1 + 18446744073709551616 * a0 := by omega
    have hX : lo + 18446744073709551616 * hi = (a1 + 18446744073709551616 * a0) * 2 ^ held n % 340282366920938463463374607431768211456 := by omega
    have hVe : a0 = (a1 + 18446744073709551616 * a0) / 18446744073709551616 ∧ a1 = (a1 + 18446744073709551616 * a0) % 18446744073709551616 := by omega
    rw [hX]
    have key : ((a1 + 18446744073709551616 * a0) * 2 ^ held n % 340282366920938463463374607431768211456 / 2 ^ held n = a1 + 18446744073709551616 * a0) ↔ (a1 + 18446744073709551616 * a0) * 2 ^ held n < 340282366920938463463374607431768211456 := by
      have hVP : 0 ≤ (a1 + 18446744073709551616 * a0) * 2 ^ held n := Int.mul_nonneg hV (Int.le_of_lt hP)
      constructor
      · intro h
        by_cases c : (a1 + 18446744073709551616 * a0) * 2 ^ held n < 340282366920938463463374607431768211456
        · exact c
        · have h3 : (a1 + 18446744073709551616 * a0) * 2 ^ held n % 340282366920938463463374607431768211456 < (a1 + 18446744073709551616 * a0) * 2 ^ held n := by omega
          have h4 := Int.ediv_lt_of_lt_mul hP h3
          omega
      · intro h
        rw [Int.emod_eq_of_lt hVP h, Int.mul_ediv_cancel _ (by omega)]
    generalize (a1 + 18446744073709551616 * a0) * 2 ^ held n % 340282366920938463463374607431768211456 / 2 ^ held n = Y at *
    congr 3
    rw [Bool.eq_iff_iff, Bool.and_eq_true, beq_iff_eq, beq_iff_eq, decide_eq_true_iff, ← key]
    omega
  unfold pair_Shl.f
  rw [pair_held_ok]
  generalize held n = k at *
  simp only [Option.bind_some]
  rw [wrap_nat (by omega), if_pos (by omega)]
  have hw : 0 ≤ IntKind.u64.wrap (64 - (k : Int)) := by rw [u64_mod]; omega
  rw [if_pos hw]
  clear hw
  by_cases c : (k : Int) ≥ 64
  · rw [if_pos c, wrap_sub2 (by omega) hk, if_pos (by omega), shl64 (by omega)]
    have e : (2 : Int) ^ k = 18446744073709551616 * 2 ^ (k - 64) := by
      rw [show k = 64 + (k - 64) by omega, Int.pow_add, show 64 + (k - 64) - 64 = k - 64 by omega]
      rfl
    have e2 : (a1 + 18446744073709551616 * a0) * 2 ^ k = 18446744073709551616 * (a1 * 2 ^ (k - 64) + 18446744073709551616 * (a0 * 2 ^ (k - 64))) := by
      rw [e, Int.mul_left_comm, Int.add_mul, Int.mul_assoc 18446744073709551616 a0]
    refine hback _ _ ?_ ?_
    · rw [e2]; omega
    · rw [e2]; omega
  · rw [if_neg c, wrap_sub (by omega), shl64 (by omega), shl64 (by omega), shr64 (by omega)]
    have hQ := p2_pos (64 - k)
    have hPQ := p2_split k (by omega)
    have hj := u64_join k (x := (a0 * 2 ^ k) % 18446744073709551616) (y := a1 / 2 ^ (64 - k))
    generalize hPe : (2 : Int) ^ k = P at *
    generalize hQe : (2 : Int) ^ (64 - k) = Q at *
    obtain ⟨e0, t0, t1⟩ := cut_ex a0 Q hQ
    obtain ⟨e1, r0, r1⟩ := cut_ex a1 Q hQ
    have u0 : 0 ≤ a1 / Q := Int.ediv_nonneg h2.1 (Int.le_of_lt hQ)
    have u1 : a1 / Q < P := by
      apply Int.ediv_lt_of_lt_mul hQ
      rw [hPQ]; exact h2.2
    have f1 : a0 * P = 18446744073709551616 * (a0 / Q) + a0 % Q * P := by
      have : a0 * P = (Q * (a0 / Q) + a0 % Q) * P := by rw [← e0]
      rw [this, Int.add_mul, Int.mul_right_comm, Int.mul_comm Q P, hPQ]
    have f2 : a1 * P = 18446744073709551616 * (a1 / Q) + a1 % Q * P := by
      have : a1 * P = (Q * (a1 / Q) + a1 % Q) * P := by rw [← e1]
      rw [this, Int.add_mul, Int.mul_right_comm, Int.mul_comm Q P, hPQ]
    have b1 : a0 % Q * P + P ≤ 18446744073709551616 := by
      have : (a0 % Q + 1) * P ≤ Q * P := Int.mul_le_mul_of_nonneg_right (by omega) (by omega)
      rw [Int.add_mul, Int.one_mul, Int.mul_comm Q P, hPQ] at this
      exact this
    have b2 : a1 % Q * P + P ≤ 18446744073709551616 := by
      have : (a1 % Q + 1) * P ≤ Q * P := Int.mul_le_mul_of_nonneg_right (by omega) (by omega)
      rw [Int.add_mul, Int.one_mul, Int.mul_comm Q P, hPQ] at this
      exact this
    have z1 : 0 ≤ a0 % Q * P := Int.mul_nonneg t0 (by omega)
    have z2 : 0 ≤ a1 % Q * P := Int.mul_nonneg r0 (by omega)
    have m1 : (a0 * P) % 18446744073709551616 = a0 % Q * P := (div_uniq f1 z1 (by omega)).2
    have m2 : (a1 * P) % 18446744073709551616 = a1 % Q * P := (div_uniq f2 z2 (by omega)).2
    have u2 : a1 / Q < 18446744073709551616 := Int.lt_of_le_of_lt (Int.ediv_le_self _ h2.1) h2.2
    have e2 : (a1 + 18446744073709551616 * a0) * P = 18446744073709551616 * (a1 / Q + a0 * P) + a1 % Q * P := by
      rw [Int.add_mul, f2, Int.mul_assoc 18446744073709551616 a0, Int.mul_add]
      omega
    rw [m1] at hj ⊢
    rw [m2, hj z1 (Int.mul_emod_left _ _) (by omega) u0 u1 u2]
    clear hj hPe hQe hPQ e0 e1
    refine hback _ _ ?_ ?_
    · rw [e2, f1]
      generalize a0 % Q * P = Z0 at *
      generalize a1 % Q * P = Z1 at *
      generalize a1 / Q = U at *
      generalize a0 / Q = S at *
      clear hback e2 f1 f2 m1 m2
      omega
    · rw [e2]
      generalize a1 % Q * P = Z1 at *
      clear hback e2 f1 f2 m1 m2
      omega

end Go.Proofs.YtcgdhpnobgimfaaGreatDoor.Num
end
section
namespace Go.Proofs.YtcgdhpnobgimfaaGreatDoor.Num
open Go.RowKit Go.Proofs.YtcgdhpnobgimfaaGreatDoor.PB Go.Proofs.YtcgdhpnobgimfaaGreatDoorW.PrintWords Go.Proofs.YtcgdhpnobgimfaaGreatDoorW.PrintMore

def lenTab : ByteArray := ⟨#[0, 1, 2, 2, 3, 3, 3, 3, 4, 4, 4, 4, 4, 4, 4, 4, 5, 5, 5, 5, 5, 5, 5, 5, 5, 5, 5, 5, 5, 5, 5, 5, 6, 6, 6, 6, 6, 6, 6, 6, 6, 6, 6, 6, 6, 6, 6, 6, 6, 6, 6, 6, 6, 6, 6, 6, 6, 6, 6, 6, 6, 6, 6, 6, 7, 7, 7, 7, 7, 7, 7, 7, 7, 7, 7, 7, 7, 7, 7, 7, 7, 7, 7, 7, 7, 7, 7, 7, 7, 7, 7, 7, 7, 7, 7, 7, 7, 7, 7, 7, 7, 7, 7, 7, 7, 7, 7, 7, 7, 7, 7, 7, 7, 7, 7, 7, 7, 7, 7, 7, 7, 7, 7, 7, 7, 7, 7, 7, 8, 8, 8, 8, 8, 8, 8, 8, 8, 8, 8, 8, 8, 8, 8, 8, 8, 8, 8, 8, 8, 8, 8, 8, 8, 8, 8, 8, 8, 8, 8, 8, 8, 8, 8, 8, 8, 8, 8, 8, 8, 8, 8, 8, 8, 8, 8, 8, 8, 8, 8, 8, 8, 8, 8, 8, 8, 8, 8, 8, 8, 8, 8, 8, 8, 8, 8, 8, 8, 8, 8, 8, 8, 8, 8, 8, 8, 8, 8, 8, 8, 8, 8, 8, 8, 8, 8, 8, 8, 8, 8, 8, 8, 8, 8, 8, 8, 8, 8, 8, 8, 8, 8, 8, 8, 8, 8, 8, 8, 8, 8, 8, 8, 8, 8, 8, 8, 8, 8, 8, 8, 8, 8, 8, 8, 8, 8, 8]⟩
def lenOK : Bool := (List.range 256).all fun i => decide (0 ≤ bt lenTab i) && decide (bt lenTab i ≤ 8) && decide ((i : Int) < 2 ^ (bt lenTab i).toNat) && (i == 0 || (decide (1 ≤ bt lenTab i) && decide ((2 : Int) ^ ((bt lenTab i).toNat - 1) ≤ i)))
theorem lenOK_true : lenOK = true := by decide +kernel
theorem len_at (x : Int) (h0 : 0 ≤ x) (h1 : x < 256) : ∃ m : Nat, m ≤ 8 ∧ bt lenTab x = m ∧ x < 2 ^ m ∧ (1 ≤ x → 1 ≤ m ∧ 2 ^ (m - 1) ≤ x) := by
  obtain ⟨i, rfl⟩ := Int.eq_ofNat_of_zero_le h0
  have h := List.all_eq_true.1 lenOK_true i (List.mem_range.2 (by omega))
  simp only [Bool.and_eq_true, Bool.or_eq_true, decide_eq_true_eq, beq_iff_eq] at h
  obtain ⟨⟨⟨p1, p2⟩, p3⟩, p4⟩ := h
  refine ⟨(bt lenTab i).toNat, by omega, by omega, p3, fun hx => ?_⟩
  rcases p4 with p4 | p4
  · omega
  · exact ⟨by omega, p4.2⟩

set_option maxRecDepth 100000 in
theorem len64_j0 (x n : Int) (h0 : 0 ≤ x) (h1 : x < 4294967296) (n0 : 0 ≤ n) (n1 : n ≤ 32) : ∃ m : Nat, m ≤ 32 ∧ Ev (fun k => bits_Len64.j0 k x n) (n + m) ∧ x < 2 ^ m ∧ (1 ≤ x → 1 ≤ m ∧ 2 ^ (m - 1) ≤ x) := by
  have e : ∀ (m j : Nat), 1 ≤ m → (2 : Int) ^ (m + j - 1) = 2 ^ (m - 1) * 2 ^ j := by
    intro m j hm
    rw [← Int.pow_add, show m - 1 + j = m + j - 1 by omega]
  have T : ∀ z, bt (⟨#[0, 1, 2, 2, 3, 3, 3, 3, 4, 4, 4, 4, 4, 4, 4, 4, 5, 5, 5, 5, 5, 5, 5, 5, 5, 5, 5, 5, 5, 5, 5, 5, 6, 6, 6, 6, 6, 6, 6, 6, 6, 6, 6, 6, 6, 6, 6, 6, 6, 6, 6, 6, 6, 6, 6, 6, 6, 6, 6, 6, 6, 6, 6, 6, 7, 7, 7, 7, 7, 7, 7, 7, 7, 7, 7, 7, 7, 7, 7, 7, 7, 7, 7, 7, 7, 7, 7, 7, 7, 7, 7, 7, 7, 7, 7, 7, 7, 7, 7, 7, 7, 7, 7, 7, 7, 7, 7, 7, 7, 7, 7, 7, 7, 7, 7, 7, 7, 7, 7, 7, 7, 7, 7, 7, 7, 7, 7, 7, 8, 8, 8, 8, 8, 8, 8, 8, 8, 8, 8, 8, 8, 8, 8, 8, 8, 8, 8, 8, 8, 8, 8, 8, 8, 8, 8, 8, 8, 8, 8, 8, 8, 8, 8, 8, 8, 8, 8, 8, 8, 8, 8, 8, 8, 8, 8, 8, 8, 8, 8, 8, 8, 8, 8, 8, 8, 8, 8, 8, 8, 8, 8, 8, 8, 8, 8, 8, 8, 8, 8, 8, 8, 8, 8, 8, 8, 8, 8, 8, 8, 8, 8, 8, 8, 8, 8, 8, 8, 8, 8, 8, 8, 8, 8, 8, 8, 8, 8, 8, 8, 8, 8, 8, 8, 8, 8, 8, 8, 8, 8, 8, 8, 8, 8, 8, 8, 8, 8, 8, 8, 8, 8, 8, 8, 8, 8, 8]⟩ : ByteArray) z = bt lenTab z := fun _ => rfl
  by_cases c1 : x ≥ 65536
  · by_cases c2 : x / 65536 ≥ 256
    · obtain ⟨m, hm, hb, hx, hy⟩ := len_at (x / 65536 / 256 % 256) (by omega) (by omega)
      have hy := hy (by omega)
      refine ⟨m + 24, by omega, ?_, ?_, fun _ => ⟨by omega, ?_⟩⟩
      · refine Ev.step (f := fun _ => some (n + ((m + 24 : Nat) : Int))) (fun k => ?_) (Ev.now _)
        rw [bits_Len64.j0]
        rw [if_pos c1, if_pos c2, if_pos (by omega), if_pos (by omega), T, hb, w64_id (x := n + 16) (by omega) (by omega), w64_id (x := n + 16 + 8) (by omega) (by omega), w64_id (x := (m : Int)) (by omega) (by omega), w64_id (by omega) (by omega)]
        congr 1
        omega
      · rw [Int.pow_add]; simp only [Int.reducePow]; omega
      · rw [e m 24 hy.1]; simp only [Int.reducePow]; omega
    · obtain ⟨m, hm, hb, hx, hy⟩ := len_at (x / 65536 % 256) (by omega) (by omega)
      have hy := hy (by omega)
      refine ⟨m + 16, by omega, ?_, ?_, fun _ => ⟨by omega, ?_⟩⟩
      · refine Ev.step (f := fun _ => some (n + ((m + 16 : Nat) : Int))) (fun k => ?_) (Ev.now _)
        rw [bits_Len64.j0]
        rw [if_pos c1, if_neg c2, if_pos (by omega), if_pos (by omega), T, hb, w64_id (x := n + 16) (by omega) (by omega), w64_id (x := (m : Int)) (by omega) (by omega), w64_id (by omega) (by omega)]
        congr 1
        omega
      · rw [Int.pow_add]; simp only [Int.reducePow]; omega
      · rw [e m 16 hy.1]; simp only [Int.reducePow]; omega
  · by_cases c2 : x ≥ 256
    · obtain ⟨m, hm, hb, hx, hy⟩ := len_at (x / 256 % 256) (by omega) (by omega)
      have hy := hy (by omega)
      refine ⟨m + 8, by omega, ?_, ?_, fun _ => ⟨by omega, ?_⟩⟩
      · refine Ev.step (f := fun _ => some (n + ((m + 8 : Nat) : Int))) (fun k => ?_) (Ev.now _)
        rw [bits_Len64.j0]
        rw [if_neg c1, if_pos c2, if_pos (by omega), if_pos (by omega), T, hb, w64_id (x := n + 8) (by omega) (by omega), w64_id (x := (m : Int)) (by omega) (by omega), w64_id (by omega) (by omega)]
        congr 1
        omega
      · rw [Int.pow_add]; simp only [Int.reducePow]; omega
      · rw [e m 8 hy.1]; simp only [Int.reducePow]; omega
    · obtain ⟨m, hm, hb, hx, hy⟩ := len_at (x % 256) (by omega) (by omega)
      have ex : x % 256 = x := by omega
      rw [ex] at hb hx hy
      refine ⟨m, by omega, ?_, hx, hy⟩
      refine Ev.step (f := fun _ => some (n + (m : Int))) (fun k => ?_) (Ev.now _)
      rw [bits_Len64.j0]
      rw [if_neg c1, if_neg c2, if_pos (by omega), if_pos (by omega), ex, T, hb, w64_id (x := (m : Int)) (by omega) (by omega), w64_id (by omega) (by omega)]

theorem len64_ok (y : Int) (h0 : 1 ≤ y) (h1 : y < 18446744073709551616) : ∃ m : Nat, m ≤ 64 ∧ Ev (fun k => bits_Len64.f k y) (m : Int) ∧ y < 2 ^ m ∧ 1 ≤ m ∧ 2 ^ (m - 1) ≤ y := by
  by_cases c : y ≥ 4294967296
  · obtain ⟨m, hm, hr, hx, hy⟩ := len64_j0 (y / 4294967296) 32 (by omega) (by omega) (by omega) (by omega)
    have hy := hy (by omega)
    refine ⟨m + 32, by omega, ?_, ?_, by omega, ?_⟩
    · unfold bits_Len64.f
      refine evp c ?_
      rw [show ((m + 32 : Nat) : Int) = 32 + m by omega]
      exact hr
    · rw [Int.pow_add]; simp only [Int.reducePow]; omega
    · rw [show m + 32 - 1 = m - 1 + 32 by omega, Int.pow_add]; simp only [Int.reducePow]; omega
  · obtain ⟨m, hm, hr, hx, hy⟩ := len64_j0 y 0 (by omega) (by omega) (by omega) (by omega)
    have hy := hy (by omega)
    refine ⟨m, by omega, ?_, hx, hy.1, hy.2⟩
    unfold bits_Len64.f
    refine evn c ?_
    rw [Int.zero_add] at hr
    exact hr

theorem quo_bounds {N y Q : Int} (hy : 0 < y) (hQ : Q = N / y) : Q * y ≤ N ∧ N < Q * y + y := by
  have h1 := Int.mul_ediv_add_emod N y
  have h2 := Int.emod_nonneg N (show y ≠ 0 by omega)
  have h3 := Int.emod_lt_of_pos N hy
  subst hQ
  rw [Int.mul_comm]
  omega
theorem quo_lt {N y Q q : Int} (hy : 0 < y) (hQ : Q * y ≤ N) (h : N < q * y) : Q < q := Int.lt_of_mul_lt_mul_right (by omega) (Int.le_of_lt hy)
theorem quo_le {N y Q q : Int} (hy : 0 < y) (hQ : N < Q * y + y) (h : q * y ≤ N) : q ≤ Q := by
  have : q * y < (Q + 1) * y := by rw [Int.add_mul, Int.one_mul]; omega
  have := Int.lt_of_mul_lt_mul_right this (Int.le_of_lt hy)
  omega
theorem prod_split (q yn1 yn0 y : Int) (hy : y = yn1 * 4294967296 + yn0) : q * y = q * yn1 * 4294967296 + q * yn0 := by
  rw [hy, Int.mul_add, Int.mul_assoc]

theorem div_l0 (y s yn1 yn0 u v un0 Q : Int) (hy : y = yn1 * 4294967296 + yn0) (h1 : 2147483648 ≤ yn1) (h2 : yn1 < 4294967296) (h3 : 0 ≤ yn0) (h4 : yn0 < 4294967296) (hu0 : 0 ≤ u) (hu : u < y) (hv0 : 0 ≤ v) (hv : v < 4294967296) (hQ : Q = (u * 4294967296 + v) / y)
    {r : Int × Int} (H : Ev (fun k => bits_Div64.j2 k y s yn1 yn0 u v un0 Q) r) (d : Nat) :
    ∀ (q rh : Int), (q - Q).toNat = d → Q ≤ q → q ≤ 4294967297 → u = q * yn1 + rh → 0 ≤ rh → rh < 4294967296 → Ev (fun k => bits_Div64.l0 k y s yn1 yn0 u v un0 q rh) r := by
  have hyp : 0 < y := by omega
  obtain ⟨b1, b2⟩ := quo_bounds hyp hQ
  have hQ0 : 0 ≤ Q := by rw [hQ]; exact Int.ediv_nonneg (by omega) (by omega)
  have hQB : Q < 4294967296 := quo_lt (q := 4294967296) hyp b1 (by omega)
  induction d with
  | zero =>
    intro q rh hd hq1 hq2 he hr0 hr1
    have hqQ : q = Q := by omega
    subst hqQ
    have hs := prod_split q yn1 yn0 y hy
    have hp := mul_bd (x := q) (y := yn0) (M := 4294967295) (N := 4294967295) (by omega) (by omega) h3 (by omega)
    refine Ev.step (f := fun k => bits_Div64.j1 k y s yn1 yn0 u v un0 q rh false) (fun k => ?_) ?_
    · simp only [bits_Div64.l0]
      rw [if_neg (by omega), u64_id (x := q * yn0) (by omega) (by omega), u64_id (x := 4294967296 * rh) (by omega) (by omega), u64_id (by omega) (by omega), decide_eq_false (by omega)]
    · refine Ev.step (f := fun k => bits_Div64.j2 k y s yn1 yn0 u v un0 q) (fun k => ?_) H
      simp only [bits_Div64.j1]
      rw [if_neg (by simp)]
  | succ d ih =>
    intro q rh hd hq1 hq2 he hr0 hr1
    have hs := prod_split q yn1 yn0 y hy
    have hs1 : (q - 1) * yn1 = q * yn1 - yn1 := by rw [Int.sub_mul, Int.one_mul]
    have hs2 : (q - 1) * yn0 = q * yn0 - yn0 := by rw [Int.sub_mul, Int.one_mul]
    have hs3 : (q - 1) * y = q * y - y := by rw [Int.sub_mul, Int.one_mul]
    have hp := mul_bd (x := q - 1) (y := yn0) (M := 4294967296) (N := 4294967295) (by omega) (by omega) h3 (by omega)
    have hlt : u * 4294967296 + v < q * y := by
      have : (Q + 1) * y ≤ q * y := Int.mul_le_mul_of_nonneg_right (by omega) (by omega)
      rw [Int.add_mul, Int.one_mul] at this
      omega
    refine Ev.step (f := fun k => bits_Div64.j1 k y s yn1 yn0 u v un0 q rh true) (fun k => ?_) ?_
    · simp only [bits_Div64.l0]
      by_cases c : q ≥ 4294967296
      · rw [if_pos c]
      · rw [if_neg c, u64_id (x := q * yn0) (by omega) (by omega), u64_id (x := 4294967296 * rh) (by omega) (by omega), u64_id (by omega) (by omega), decide_eq_true (by omega)]
    · by_cases c : rh + yn1 ≥ 4294967296
      · have hq : q - 1 = Q := by
          have := quo_le hyp b2 (q := q - 1) (by omega)
          omega
        refine Ev.step (f := fun k => bits_Div64.j2 k y s yn1 yn0 u v un0 (q - 1)) (fun k => ?_) (by rw [hq]; exact H)
        simp only [bits_Div64.j1, if_true]
        rw [u64_id (x := rh + yn1) (by omega) (by omega), if_pos c, u64_id (by omega) (by omega)]
      · refine Ev.step (f := fun k => bits_Div64.l0 k y s yn1 yn0 u v un0 (q - 1) (rh + yn1)) (fun k => ?_) (ih (q - 1) (rh + yn1) (by omega) (by omega) (by omega) (by omega) (by omega) (by omega))
        simp only [bits_Div64.j1, if_true]
        rw [u64_id (x := rh + yn1) (by omega) (by omega), if_neg c, u64_id (by omega) (by omega)]

theorem div_l1 (y s yn1 yn0 u v q1 Q : Int) (hs0 : 0 ≤ s) (hy : y = yn1 * 4294967296 + yn0) (h1 : 2147483648 ≤ yn1) (h2 : yn1 < 4294967296) (h3 : 0 ≤ yn0) (h4 : yn0 < 4294967296) (hu0 : 0 ≤ u) (hu : u < y) (hv0 : 0 ≤ v) (hv : v < 4294967296) (hQ : Q = (u * 4294967296 + v) / y) (d : Nat) :
    ∀ (q rh : Int), (q - Q).toNat = d → Q ≤ q → q ≤ 4294967297 → u = q * yn1 + rh → 0 ≤ rh → rh < 4294967296 →
      Ev (fun k => bits_Div64.l1 k y s yn1 yn0 v q1 rh u q) (IntKind.u64.wrap (IntKind.u64.wrap (q1 * 4294967296) + Q), shr .u64 (IntKind.u64.wrap (IntKind.u64.wrap (IntKind.u64.wrap (u * 4294967296) + v) - IntKind.u64.wrap (Q * y))) s) := by
  have hyp : 0 < y := by omega
  obtain ⟨b1, b2⟩ := quo_bounds hyp hQ
  have hQ0 : 0 ≤ Q := by rw [hQ]; exact Int.ediv_nonneg (by omega) (by omega)
  have hQB : Q < 4294967296 := quo_lt (q := 4294967296) hyp b1 (by omega)
  induction d with
  | zero =>
    intro q rh hd hq1 hq2 he hr0 hr1
    have hqQ : q = Q := by omega
    subst hqQ
    have hs := prod_split q yn1 yn0 y hy
    have hp := mul_bd (x := q) (y := yn0) (M := 4294967295) (N := 4294967295) (by omega) (by omega) h3 (by omega)
    refine Ev.step (f := fun k => bits_Div64.j4 k y s yn1 yn0 v q1 rh u q false) (fun k => ?_) ?_
    · simp only [bits_Div64.l1]
      rw [if_neg (by omega), u64_id (x := q * yn0) (by omega) (by omega), u64_id (x := 4294967296 * rh) (by omega) (by omega), u64_id (by omega) (by omega), decide_eq_false (by omega)]
    · refine Ev.step (f := fun _ => some _) (fun k => ?_) (Ev.now _)
      simp only [bits_Div64.j4]
      rw [if_neg (by simp), if_pos hs0]
  | succ d ih =>
    intro q rh hd hq1 hq2 he hr0 hr1
    have hs := prod_split q yn1 yn0 y hy
    have hs1 : (q - 1) * yn1 = q * yn1 - yn1 := by rw [Int.sub_mul, Int.one_mul]
    have hs2 : (q - 1) * yn0 = q * yn0 - yn0 := by rw [Int.sub_mul, Int.one_mul]
    have hs3 : (q - 1) * y = q * y - y := by rw [Int.sub_mul, Int.one_mul]
    have hp := mul_bd (x := q - 1) (y := yn0) (M := 4294967296) (N := 4294967295) (by omega) (by omega) h3 (by omega)
    have hlt : u * 4294967296 + v < q * y := by
      have : (Q + 1) * y ≤ q * y := Int.mul_le_mul_of_nonneg_right (by omega) (by omega)
      rw [Int.add_mul, Int.one_mul] at this
      omega
    refine Ev.step (f := fun k => bits_Div64.j4 k y s yn1 yn0 v q1 rh u q true) (fun k => ?_) ?_
    · simp only [bits_Div64.l1]
      by_cases c : q ≥ 4294967296
      · rw [if_pos c]
      · rw [if_neg c, u64_id (x := q * yn0) (by omega) (by omega), u64_id (x := 4294967296 * rh) (by omega) (by omega), u64_id (by omega) (by omega), decide_eq_true (by omega)]
    · by_cases c : rh + yn1 ≥ 4294967296
      · have hq : q - 1 = Q := by
          have := quo_le hyp b2 (q := q - 1) (by omega)
          omega
        refine Ev.step (f := fun _ => some _) (fun k => ?_) (Ev.now _)
        simp only [bits_Div64.j4, if_true]
        rw [u64_id (x := rh + yn1) (by omega) (by omega), if_pos c, if_pos hs0, u64_id (x := q - 1) (by omega) (by omega), hq]
      · refine Ev.step (f := fun k => bits_Div64.l1 k y s yn1 yn0 v q1 (rh + yn1) u (q - 1)) (fun k => ?_) (ih (q - 1) (rh + yn1) (by omega) (by omega) (by omega) (by omega) (by omega) (by omega))
        simp only [bits_Div64.j4, if_true]
        rw [u64_id (x := rh + yn1) (by omega) (by omega), if_neg c, u64_id (x := q - 1) (by omega) (by omega)]

theorem div_guess {y yn1 yn0 u v Q : Int} (hy : y = yn1 * 4294967296 + yn0) (h1 : 2147483648 ≤ yn1) (h2 : yn1 < 4294967296) (h3 : 0 ≤ yn0) (h4 : yn0 < 4294967296) (hu0 : 0 ≤ u) (hu : u < y) (hv0 : 0 ≤ v) (hv : v < 4294967296) (hQ : Q = (u * 4294967296 + v) / y) :
    Q ≤ u / yn1 ∧ u / yn1 ≤ 4294967297 ∧ u / yn1 * yn1 ≤ u ∧ u < u / yn1 * yn1 + yn1 ∧ 0 ≤ u / yn1 := by
  have hyp : 0 < y := by omega
  obtain ⟨b1, b2⟩ := quo_bounds hyp hQ
  have hQ0 : 0 ≤ Q := by rw [hQ]; exact Int.ediv_nonneg (by omega) (by omega)
  obtain ⟨c1, c2⟩ := quo_bounds (N := u) (y := yn1) (by omega) rfl
  have hs := prod_split Q yn1 yn0 y hy
  have hp : 0 ≤ Q * yn0 := Int.mul_nonneg hQ0 h3
  refine ⟨Int.le_ediv_of_mul_le (by omega) (by omega), ?_, c1, c2, Int.ediv_nonneg hu0 (by omega)⟩
  have : u / yn1 < 4294967298 := Int.ediv_lt_of_lt_mul (by omega) (by omega)
  omega

theorem div64_norm (Y s U w : Int) (hs0 : 0 ≤ s) (hY1 : 9223372036854775808 ≤ Y) (hY2 : Y < 18446744073709551616) (hU0 : 0 ≤ U) (hU : U < Y) (hw0 : 0 ≤ w) (hw : w < 18446744073709551616) :
    ∃ Qt R : Int, Ev (fun k => bits_Div64.l0 k Y s (Y / 4294967296) (Y % 4294967296) U (w / 4294967296) (w % 4294967296) (U / (Y / 4294967296)) (U - U / (Y / 4294967296) * (Y / 4294967296))) (Qt, shr .u64 R s) ∧ U * 18446744073709551616 + w = Qt * Y + R ∧ 0 ≤ R ∧ R < Y ∧ 0 ≤ Qt ∧ Qt < 18446744073709551616 := by
  have hy : Y = Y / 4294967296 * 4294967296 + Y % 4294967296 := by omega
  have a1 : 2147483648 ≤ Y / 4294967296 := by omega
  have a2 : Y / 4294967296 < 4294967296 := by omega
  have a3 : 0 ≤ Y % 4294967296 := by omega
  have a4 : Y % 4294967296 < 4294967296 := by omega
  have a5 : 0 ≤ w / 4294967296 := by omega
  have a6 : w / 4294967296 < 4294967296 := by omega
  have a7 : 0 ≤ w % 4294967296 := by omega
  have a8 : w % 4294967296 < 4294967296 := by omega
  have hw3 : w = w / 4294967296 * 4294967296 + w % 4294967296 := by omega
  generalize Y / 4294967296 = yn1 at *
  generalize Y % 4294967296 = yn0 at *
  generalize w / 4294967296 = un1 at *
  generalize w % 4294967296 = un0 at *
  obtain ⟨Q1, hQ1⟩ : ∃ Q1, Q1 = (U * 4294967296 + un1) / Y := ⟨_, rfl⟩
  have hYp : 0 < Y := by omega
  obtain ⟨b1, b2⟩ := quo_bounds hYp hQ1
  have hQ10 : 0 ≤ Q1 := by rw [hQ1]; exact Int.ediv_nonneg (by omega) (by omega)
  have hQ1B : Q1 < 4294967296 := quo_lt (q := 4294967296) hYp b1 (by omega)
  obtain ⟨V, hV⟩ : ∃ V, V = U * 4294967296 + un1 - Q1 * Y := ⟨_, rfl⟩
  obtain ⟨Q0, hQ0⟩ : ∃ Q0, Q0 = (V * 4294967296 + un0) / Y := ⟨_, rfl⟩
  obtain ⟨d1, d2⟩ := quo_bounds hYp hQ0
  have hQ00 : 0 ≤ Q0 := by rw [hQ0]; exact Int.ediv_nonneg (by omega) (by omega)
  have hQ0B : Q0 < 4294967296 := quo_lt (q := 4294967296) hYp d1 (by omega)
  obtain ⟨g1, g2, g3, g4, g5⟩ := div_guess hy a1 a2 a3 a4 hU0 hU a5 a6 hQ1
  obtain ⟨f1, f2, f3, f4, f5⟩ := div_guess hy a1 a2 a3 a4 (u := V) (by omega) (by omega) a7 a8 hQ0
  have hl1 := div_l1 Y s yn1 yn0 V un0 Q1 Q0 hs0 hy a1 a2 a3 a4 (by omega) (by omega) a7 a8 hQ0 _ (V / yn1) (V - V / yn1 * yn1) rfl f1 f2 (by omega) (by omega) (by omega)
  have eq : (Q1 * 4294967296 + Q0) * Y = Q1 * Y * 4294967296 + Q0 * Y := by rw [Int.add_mul, Int.mul_right_comm]
  refine ⟨Q1 * 4294967296 + Q0, V * 4294967296 + un0 - Q0 * Y, ?_, by omega, by omega, by omega, by omega, by omega⟩
  refine div_l0 Y s yn1 yn0 U un1 un0 Q1 hy a1 a2 a3 a4 hU0 hU a5 a6 hQ1 ?_ _ (U / yn1) (U - U / yn1 * yn1) rfl g1 g2 (by omega) (by omega) (by omega)
  refine Ev.step (f := fun k => bits_Div64.l1 k Y s yn1 yn0 un0 Q1 (V - V / yn1 * yn1) V (V / yn1)) (fun k => ?_) ?_
  · have eV : IntKind.u64.wrap (IntKind.u64.wrap (IntKind.u64.wrap (U * 4294967296) + un1) - IntKind.u64.wrap (Q1 * Y)) = V := by
      simp only [u64_mod]
      omega
    simp only [bits_Div64.j2]
    rw [if_neg (by omega), eV, tdiv_pos (by omega), u64_id (x := V / yn1) (by omega) (by omega), u64_id (x := V / yn1 * yn1) (Int.mul_nonneg f5 (by omega)) (by omega), u64_id (by omega) (by omega)]
  · have e1 : IntKind.u64.wrap (IntKind.u64.wrap (Q1 * 4294967296) + Q0) = Q1 * 4294967296 + Q0 := by
      simp only [u64_mod]
      omega
    have e2 : IntKind.u64.wrap (IntKind.u64.wrap (IntKind.u64.wrap (V * 4294967296) + un0) - IntKind.u64.wrap (Q0 * Y)) = V * 4294967296 + un0 - Q0 * Y := by
      simp only [u64_mod]
      omega
    rw [e1, e2] at hl1
    exact hl1

theorem div64_ok {hi lo y : Int} (h0 : 0 ≤ hi) (h1 : hi < y) (h2 : y < 18446744073709551616) (h3 : 0 ≤ lo) (h4 : lo < 18446744073709551616) :
    Ev (fun k => bits_Div64.f k hi lo y) ((lo + 18446744073709551616 * hi) / y, (lo + 18446744073709551616 * hi) % y) := by
  unfold bits_Div64.f
  refine evn (by omega) ?_
  refine evn (by omega) ?_
  by_cases c : hi = 0
  · subst c
    refine evp rfl ?_
    refine Ev.congr (fun k => ?_) (Ev.now _)
    have b : lo / y ≤ lo := Int.ediv_le_self _ h3
    have b0 : 0 ≤ lo / y := Int.ediv_nonneg h3 (by omega)
    rw [tdiv_pos h3, tmod_pos h3, u64_id b0 (by omega)]
    simp
  · refine evn c ?_
    obtain ⟨m, hm, hlen, hm1, hm2, hm3⟩ := len64_ok y (by omega) h2
    have hlz : Ev (fun k => bits_LeadingZeros64.f k y) (((64 - m : Nat) : Int)) := by
      unfold bits_LeadingZeros64.f
      refine Ev.bind hlen ?_
      refine Ev.congr (fun k => ?_) (Ev.now _)
      rw [w64_id (by omega) (by omega)]
      congr 1
      omega
    refine Ev.bind hlz ?_
    have hk : 64 - m ≤ 64 := by omega
    have hPQ := p2_split (64 - m) hk
    rw [show 64 - (64 - m) = m by omega] at hPQ
    have hP := p2_pos (64 - m)
    have hQ := p2_pos m
    have hmm := p2_pred hm2
    rw [wrap_nat (by omega)]
    refine evp (by omega) ?_
    have hw64 : IntKind.u64.wrap (64 - ((64 - m : Nat) : Int)) = (m : Int) := by
      rw [u64_id (by omega) (by omega)]
      omega
    rw [hw64, shl64 hk, shl64 hk, shl64 hk, shr64 (k := m) (by omega)]
    refine evp (by omega) ?_
    have hj := u64_join (64 - m) (x := (hi * 2 ^ (64 - m)) % 18446744073709551616) (y := lo / 2 ^ m)
    have hsh : ∀ R : Int, shr .u64 R ((64 - m : Nat) : Int) = R / 2 ^ (64 - m) := fun R => shr64 hk
    have hs0 : 0 ≤ ((64 - m : Nat) : Int) := by omega
    clear hlz hlen hw64
    generalize ((64 - m : Nat) : Int) = s at *
    generalize hPe : (2 : Int) ^ (64 - m) = P at *
    generalize hQe : (2 : Int) ^ m = Q at *
    have hyP1 : y * P + P ≤ 18446744073709551616 := by
      have : (y + 1) * P ≤ Q * P := Int.mul_le_mul_of_nonneg_right (by omega) (by omega)
      rw [Int.add_mul, Int.one_mul, Int.mul_comm Q P, hPQ] at this
      exact this
    have hyP2 : 9223372036854775808 ≤ y * P := by
      have : 2 ^ (m - 1) * P ≤ y * P := Int.mul_le_mul_of_nonneg_right hm3 (by omega)
      have e : 2 ^ (m - 1) * P * 2 = 18446744073709551616 := by rw [Int.mul_right_comm, ← hmm, Int.mul_comm Q P, hPQ]
      omega
    have hhP0 : 0 ≤ hi * P := Int.mul_nonneg h0 (by omega)
    have hhP : hi * P + P ≤ y * P := by
      have : (hi + 1) * P ≤ y * P := Int.mul_le_mul_of_nonneg_right (by omega) (by omega)
      rw [Int.add_mul, Int.one_mul] at this
      exact this
    obtain ⟨e1, r0, r1⟩ := cut_ex lo Q hQ
    have u0 : 0 ≤ lo / Q := Int.ediv_nonneg h3 (by omega)
    have u1 : lo / Q < P := by
      apply Int.ediv_lt_of_lt_mul hQ
      rw [hPQ]; exact h4
    have fP : lo * P = 18446744073709551616 * (lo / Q) + lo % Q * P := by
      have : lo * P = (Q * (lo / Q) + lo % Q) * P := by rw [← e1]
      rw [this, Int.add_mul, Int.mul_right_comm, Int.mul_comm Q P, hPQ]
    have z2 : 0 ≤ lo % Q * P := Int.mul_nonneg r0 (by omega)
    have b2 : lo % Q * P + P ≤ 18446744073709551616 := by
      have : (lo % Q + 1) * P ≤ Q * P := Int.mul_le_mul_of_nonneg_right (by omega) (by omega)
      rw [Int.add_mul, Int.one_mul, Int.mul_comm Q P, hPQ] at this
      exact this
    have m1 : (hi * P) % 18446744073709551616 = hi * P := Int.emod_eq_of_lt hhP0 (by omega)
    have m2 : (lo * P) % 18446744073709551616 = lo % Q * P := (div_uniq fP z2 (by omega)).2
    have m3 : (y * P) % 18446744073709551616 = y * P := Int.emod_eq_of_lt (by omega) (by omega)
    rw [m1] at hj
    rw [m1, m2, m3, hj hhP0 (Int.mul_emod_left _ _) (by omega) u0 u1 (Int.lt_of_le_of_lt (Int.ediv_le_self _ h3) h4)]
    have eN : (lo + 18446744073709551616 * hi) * P = (hi * P + lo / Q) * 18446744073709551616 + lo % Q * P := by
      rw [Int.add_mul, fP, Int.mul_assoc 18446744073709551616 hi]
      omega
    clear hj m1 m2 m3 hPe hQe
    obtain ⟨Qt, R, hev, hN, hR0, hR1, hq0, hq1⟩ := div64_norm (y * P) s (hi * P + lo / Q) (lo % Q * P) hs0 hyP2 (by omega) (by omega) (by omega) z2 (by omega)
    have hg := div_guess (y := y * P) (yn1 := y * P / 4294967296) (yn0 := y * P % 4294967296) (u := hi * P + lo / Q) (v := 0) (by omega) (by omega) (by omega) (by omega) (by omega) (by omega) (by omega) (by omega) (by omega) rfl
    obtain ⟨_, g2, g3, g4, g5⟩ := hg
    refine evn (by omega) ?_
    have hNy : (lo + 18446744073709551616 * hi - Qt * y) * P = R := by
      rw [Int.sub_mul, eN, hN, Int.mul_assoc Qt y P]
      omega
    have t0 : 0 ≤ lo + 18446744073709551616 * hi - Qt * y := by
      by_cases h : lo + 18446744073709551616 * hi - Qt * y < 0
      · have := Int.mul_neg_of_neg_of_pos h hP
        omega
      · omega
    have t1 : lo + 18446744073709551616 * hi - Qt * y < y := by
      apply Int.lt_of_mul_lt_mul_right (a := P)
      · rw [hNy]; exact hR1
      · omega
    obtain ⟨q1, q2⟩ := div_uniq (a := lo + 18446744073709551616 * hi) (P := y) (q := Qt) (r := lo + 18446744073709551616 * hi - Qt * y) (by rw [Int.mul_comm y]; omega) t0 t1
    rw [q1, q2]
    rw [hsh, ← hNy, Int.mul_ediv_cancel _ (by omega)] at hev
    rw [u64_lo32 (x := y * P) (by omega) (by omega), u64_lo32 (x := lo % Q * P) z2 (by omega), tdiv_pos (a := hi * P + lo / Q) (by omega), u64_id (x := (hi * P + lo / Q) / (y * P / 4294967296)) g5 (by omega), u64_id (x := (hi * P + lo / Q) / (y * P / 4294967296) * (y * P / 4294967296)) (Int.mul_nonneg g5 (by omega)) (by omega), u64_id (by omega) (by omega)]
    exact hev
end Go.Proofs.YtcgdhpnobgimfaaGreatDoor.Num
end
section
namespace Go.Proofs.YtcgdhpnobgimfaaGreatDoor.Num
open Go.RowKit Go.Proofs.YtcgdhpnobgimfaaGreatDoor.PB Go.Proofs.YtcgdhpnobgimfaaGreatDoorW.PrintWords Go.Proofs.YtcgdhpnobgimfaaGreatDoorW.PrintMore

def rnd (V d : Int) : Int := V / d + (if 2 * (V % d) > d ∨ (2 * (V % d) = d ∧ V / d % 2 = 1) then 1 else 0)
def near (V d : Int) : Int × Int := if d = 0 then (0, 5) else if rnd V d < 18446744073709551616 then (rnd V d, 0) else (0, 4)

theorem rnd_bounds (V d : Int) : V / d ≤ rnd V d ∧ rnd V d ≤ V / d + 1 := by
  unfold rnd
  split <;> omega

theorem half_over_ok {hi lo d : Int} (h0 : 0 ≤ hi) (h1 : hi < 18446744073709551616) (h2 : 0 ≤ lo) (h3 : lo < 18446744073709551616) (h4 : 0 ≤ d) (h5 : d < 18446744073709551616) :
    Ev (fun k => half_Over.f k hi lo d) (if d = 0 then (0, 0, 5) else if hi ≥ d then (0, 0, 4) else ((lo + 18446744073709551616 * hi) / d, (lo + 18446744073709551616 * hi) % d, 0)) := by
  unfold half_Over.f
  by_cases c : d = 0
  · rw [if_pos c]
    exact evp c (Ev.now _)
  · rw [if_neg c]
    refine evn c ?_
    by_cases c2 : hi ≥ d
    · rw [if_pos c2]
      exact evp c2 (Ev.now _)
    · rw [if_neg c2]
      refine evn c2 ?_
      exact Ev.bind (div64_ok h0 (by omega) h5 h2 h3) (Ev.now _)

theorem half_up_ok {q r d : Int} (hq : 0 ≤ q) (h0 : 0 ≤ r) (h1 : r < d) (h2 : d < 18446744073709551616) : half_up.f q r d = some (decide (2 * r > d ∨ (2 * r = d ∧ q % 2 = 1))) := by
  unfold half_up.f
  rw [u64_id (x := d - r) (by omega) (by omega), tmod_pos hq]
  by_cases c : r > d - r
  · rw [if_pos c, decide_eq_true (.inl (by omega))]
  · rw [if_neg c]
    by_cases c2 : r = d - r
    · rw [if_pos c2]
      congr 1
      rw [Bool.eq_iff_iff, beq_iff_eq, decide_eq_true_iff]
      omega
    · rw [if_neg c2, decide_eq_false (by omega)]

theorem half_near_ok {hi lo d : Int} (h0 : 0 ≤ hi) (h1 : hi < 18446744073709551616) (h2 : 0 ≤ lo) (h3 : lo < 18446744073709551616) (h4 : 0 ≤ d) (h5 : d < 18446744073709551616) :
    Ev (fun k => half_Near.f k hi lo d) (near (lo + 18446744073709551616 * hi) d) := by
  unfold half_Near.f
  have ho := half_over_ok h0 h1 h2 h3 h4 h5
  unfold near
  by_cases c : d = 0
  · rw [if_pos c] at ho
    rw [if_pos c]
    refine Ev.bind ho ?_
    refine evn (by simp) ?_
    exact Ev.step (f := fun _ => some _) (fun k => by simp [half_Near.j0]) (Ev.now _)
  · rw [if_neg c] at ho
    rw [if_neg c]
    obtain ⟨b1, b2⟩ := quo_bounds (N := lo + 18446744073709551616 * hi) (y := d) (by omega) rfl
    have hr := rnd_bounds (lo + 18446744073709551616 * hi) d
    by_cases c2 : hi ≥ d
    · rw [if_pos c2] at ho
      have : 18446744073709551616 ≤ (lo + 18446744073709551616 * hi) / d := Int.le_ediv_of_mul_le (by omega) (by omega)
      rw [if_neg (by omega)]
      refine Ev.bind ho ?_
      refine evn (by simp) ?_
      exact Ev.step (f := fun _ => some _) (fun k => by simp [half_Near.j0]) (Ev.now _)
    · rw [if_neg c2] at ho
      have hq0 : 0 ≤ (lo + 18446744073709551616 * hi) / d := Int.ediv_nonneg (by omega) (by omega)
      have hq1 : (lo + 18446744073709551616 * hi) / d < 18446744073709551616 := Int.ediv_lt_of_lt_mul (by omega) (by omega)
      have hr0 := Int.emod_nonneg (lo + 18446744073709551616 * hi) (show d ≠ 0 by omega)
      have hr1 := Int.emod_lt_of_pos (lo + 18446744073709551616 * hi) (show 0 < d by omega)
      have hu := half_up_ok hq0 hr0 hr1 h5
      refine Ev.bind ho ?_
      refine evp rfl ?_
      refine evs hu ?_
      unfold rnd
      by_cases cu : 2 * ((lo + 18446744073709551616 * hi) % d) > d ∨ (2 * ((lo + 18446744073709551616 * hi) % d) = d ∧ (lo + 18446744073709551616 * hi) / d % 2 = 1)
      · rw [if_pos cu]
        by_cases cw : (lo + 18446744073709551616 * hi) / d + 1 < 18446744073709551616
        · rw [if_pos cw]
          refine Ev.step (f := fun _ => some _) (fun k => ?_) (Ev.now _)
          simp only [half_Near.j0]
          rw [if_neg (by simp [cu]), u64_id (by omega) cw, if_neg (by omega)]
        · rw [if_neg cw]
          refine Ev.step (f := fun _ => some _) (fun k => ?_) (Ev.now _)
          simp only [half_Near.j0]
          rw [if_neg (by simp [cu]), u64_mod, if_pos (by omega)]
      · rw [if_neg cu, Int.add_zero, if_pos hq1]
        refine Ev.step (f := fun _ => some _) (fun k => ?_) (Ev.now _)
        simp only [half_Near.j0]
        rw [if_pos (by simp [cu])]

theorem half_shift_ok {hi lo : Int} (n : Int) (h1 : 0 ≤ hi ∧ hi < 18446744073709551616) (h2 : 0 ≤ lo ∧ lo < 18446744073709551616) :
    Ev (fun k => half_Shift.f k hi lo n) (near (lo + 18446744073709551616 * hi) (2 ^ min n.toNat 63)) := by
  have hm : mn (mx n 0) 63 = ((min n.toNat 63 : Nat) : Int) := by
    unfold mn mx
    by_cases h : n < 0
    · rw [if_pos h]; split <;> omega
    · rw [if_neg h]; split <;> omega
  have hs := pair_shl_ok (a0 := 0) (a1 := 1) ((min n.toNat 63 : Nat) : Int) (by omega) (by omega)
  have hk : min n.toNat 63 ≤ 63 := Nat.min_le_right _ _
  have he : held ((min n.toNat 63 : Nat) : Int) = min n.toNat 63 := by unfold held; omega
  rw [he] at hs
  generalize min n.toNat 63 = k at *
  have hp1 := p2_pos k
  have hp2 : (2 : Int) ^ k < 18446744073709551616 := by
    have h := p2_split k (by omega)
    have h2 := p2_pred (m := 64 - k) (by omega)
    have h3 := p2_pos (64 - k - 1)
    have h4 : (2 : Int) ^ k * 2 ≤ 2 ^ k * 2 ^ (64 - k) := Int.mul_le_mul_of_nonneg_left (by omega) (Int.le_of_lt hp1)
    omega
  have e1 : (1 + 18446744073709551616 * (0 : Int)) * 2 ^ k = 2 ^ k := by omega
  have hn := half_near_ok h1.1 h1.2 h2.1 h2.2 (Int.le_of_lt hp1) hp2
  rw [e1, Int.emod_eq_of_lt (a := 2 ^ k) (Int.le_of_lt hp1) hp2] at hs
  unfold half_Shift.f
  rw [hm]
  refine evs hs ?_
  exact Ev.bind hn (Ev.now _)

theorem quot_step {T D q r b : Int} (hD : 0 < D) (hq : q = T / D) (hr : r = T % D) (hb0 : 0 ≤ b) (hb1 : b ≤ 1) :
    (2 * r + b ≥ D → (2 * T + b) / D = 2 * q + 1 ∧ (2 * T + b) % D = 2 * r + b - D) ∧ (2 * r + b < D → (2 * T + b) / D = 2 * q ∧ (2 * T + b) % D = 2 * r + b) := by
  obtain ⟨e, r0, r1⟩ := cut_ex T D hD
  rw [← hq, ← hr] at e
  rw [← hr] at r0 r1
  have e2 : D * (2 * q) = 2 * (D * q) := by rw [Int.mul_left_comm]
  constructor
  · intro h
    exact div_uniq (by rw [Int.mul_add, e2, Int.mul_one]; omega) (by omega) (by omega)
  · intro h
    exact div_uniq (by rw [e2]; omega) (by omega) (by omega)

theorem quot_bits (a : Int) (j : Nat) (hj : j < 16) : a / 2 ^ (15 - j) / 2 = a / 2 ^ (16 - j) ∧ a / 2 ^ (15 - j) % 2 + 2 * (a / 2 ^ (16 - j)) = a / 2 ^ (15 - j) := by
  have e : (2 : Int) ^ (16 - j) = 2 ^ (15 - j) * 2 := by
    have h := p2_pred (m := 16 - j) (by omega)
    rwa [show 16 - j - 1 = 15 - j by omega] at h
  have e2 : a / 2 ^ (16 - j) = a / 2 ^ (15 - j) / 2 := by rw [e, Int.ediv_ediv_of_nonneg (Int.le_of_lt (p2_pos _))]
  omega

theorem quot_l2 (a D q r : List Int) (hq : dok q) (tq : tg q) (hr : dok r) (hD : dok D) (N : Nat) (hlq : q.length ≤ N) (hlr : r.length ≤ N) (hlD : D.length ≤ N) (hN : N < 4000000) (hD0 : 0 < dv D) (T : Int) (eq : dv q = T / dv D) (er : dv r = T % dv D) (i x : Int) (hx0 : 0 ≤ x) (j : Nat) (hj : j < 16) (G : List Int → Prop)
    (H : ∀ q' r' : List Int, dok q' → tg q' → dok r' → q'.length ≤ N + 2 → r'.length ≤ N + 2 → dv q' = (2 * T + x / 2 ^ (15 - j) % 2) / dv D → dv r' = (2 * T + x / 2 ^ (15 - j) % 2) % dv D → ∃ z, Ev (fun k => regimenref03_Quotient.l1 k a D q' r' i ((j + 1 : Nat) : Int)) z ∧ G z) (d : Nat) :
    ∀ (m : Nat) (w : Int), 15 - m = d → j ≤ m → m ≤ 15 → w = x / 2 ^ (m - j) → x < 18446744073709551616 → ∃ z, Ev (fun k => regimenref03_Quotient.l2 k a D q r i (j : Int) w (m : Int)) z ∧ G z := by
  induction d with
  | zero =>
    intro m w hd hm hm2 hw hx1
    obtain rfl : m = 15 := by omega
    have hw0 : 0 ≤ w := by rw [hw]; exact Int.ediv_nonneg hx0 (Int.le_of_lt (p2_pos _))
    rw [hw]
    rw [hw] at hw0
    generalize hxx : x / 2 ^ (15 - j) = y at *
    have hb0 : 0 ≤ y % 2 ∧ y % 2 ≤ 1 := by omega
    obtain ⟨r2, hr2, dr2, vr2, lr2⟩ := plus_ok r r hr hr N hlr hlr (by omega)
    obtain ⟨r3, hr3, dr3, vr3, lr3⟩ := plus_ok r2 [y % 2] dr2 (dok_cons (by omega) dok_nil) (N + 1) lr2 (by simp) (by omega)
    obtain ⟨q2, hq2, dq2, vq2, lq2, tq2⟩ := tg_plus q q hq hq tq tq (by omega) (by omega) N hlq hlq
    have hc := cmp_ok r3 D dr3 hD (by omega) (by omega)
    have v3 : dv r3 = 2 * dv r + y % 2 := by rw [vr3, vr2]; simp [dv]; omega
    obtain ⟨s1, s2⟩ := quot_step hD0 eq er hb0.1 hb0.2
    by_cases c : dv r3 ≥ dv D
    · obtain ⟨r4, hr4, dr4, vr4, lr4⟩ := less_ok r3 D dr3 hD (by omega) c
      obtain ⟨q3, hq3, dq3, vq3, lq3, tq3⟩ := tg_plus q2 [1] dq2 (dok_cons (by omega) dok_nil) tq2 (.inl (by simp)) (by omega) (by simp) (N + 1) lq2 (by simp)
      obtain ⟨s3, s4⟩ := s1 (by omega)
      obtain ⟨z, hz, hG⟩ := H q3 r4 dq3 tq3 dr4 lq3 (by omega) (by rw [vq3, vq2, s3]; simp [dv]; omega) (by rw [vr4, v3, s4])
      refine ⟨z, ?_, hG⟩
      refine Ev.step (fun k => by rw [regimenref03_Quotient.l2]) ?_
      refine evn (by omega) ?_
      refine Ev.bind hr2 ?_
      rw [tmod_pos hw0]
      refine Ev.bind hr3 ?_
      refine Ev.bind hq2 ?_
      refine Ev.bind hc ?_
      refine evp (by rw [if_neg (by omega)]; split <;> omega) ?_
      refine Ev.bind hr4 ?_
      refine Ev.bind hq3 ?_
      rw [w64_succ (by omega)]
      exact hz
    · obtain ⟨s3, s4⟩ := s2 (by omega)
      obtain ⟨z, hz, hG⟩ := H q2 r3 dq2 tq2 dr3 (by omega) lr3 (by rw [vq2, s3]; omega) (by rw [v3, s4])
      refine ⟨z, ?_, hG⟩
      refine Ev.step (fun k => by rw [regimenref03_Quotient.l2]) ?_
      refine evn (by omega) ?_
      refine Ev.bind hr2 ?_
      rw [tmod_pos hw0]
      refine Ev.bind hr3 ?_
      refine Ev.bind hq2 ?_
      refine Ev.bind hc ?_
      refine evn (by rw [if_pos (by omega)]; omega) ?_
      rw [w64_succ (by omega)]
      exact hz
  | succ d ih =>
    intro m w hd hm hm2 hw hx1
    have hw0 : 0 ≤ w := by rw [hw]; exact Int.ediv_nonneg hx0 (Int.le_of_lt (p2_pos _))
    have hw1 : w ≤ x := by rw [hw]; exact Int.ediv_le_self _ hx0
    obtain ⟨z, hz, hG⟩ := ih (m + 1) (w / 2) (by omega) (by omega) (by omega) (by
      have h := p2_pred (m := m + 1 - j) (by omega)
      rw [show m + 1 - j - 1 = m - j by omega] at h
      rw [hw, Int.ediv_ediv_of_nonneg (Int.le_of_lt (p2_pos _)), ← h]) hx1
    refine ⟨z, ?_, hG⟩
    refine Ev.step (f := fun k => regimenref03_Quotient.l2 k a D q r i (j : Int) (w / 2) ((m + 1 : Nat) : Int)) (fun k => ?_) hz
    simp only [regimenref03_Quotient.l2]
    rw [if_pos (by omega), tdiv_pos hw0, u64_id (by omega) (by omega), w64_succ (by omega)]

theorem quot_l1 (a D : List Int) (ha : dok a) (hD : dok D) (hlD : D.length ≤ 1000) (hla : a.length ≤ 900) (hD0 : 0 < dv D) (i : Nat) (hi : i < a.length) (G : List Int → Prop)
    (H : ∀ q' r' : List Int, dok q' → tg q' → dok r' → q'.length ≤ 1000 + 32 * (a.length - i) → r'.length ≤ 1000 + 32 * (a.length - i) → dv q' = dv (a.drop i) / dv D → dv r' = dv (a.drop i) % dv D → ∃ z, Ev (fun k => regimenref03_Quotient.l0 k a D q' r' ((i : Int) - 1)) z ∧ G z) (d : Nat) :
    ∀ (j : Nat) (q r : List Int), 16 - j = d → j ≤ 16 → dok q → tg q → dok r → q.length ≤ 1000 + 32 * (a.length - (i + 1)) + 2 * j → r.length ≤ 1000 + 32 * (a.length - (i + 1)) + 2 * j →
      dv q = (dv (a.drop (i + 1)) * 2 ^ j + a.getD i 0 / 2 ^ (16 - j)) / dv D → dv r = (dv (a.drop (i + 1)) * 2 ^ j + a.getD i 0 / 2 ^ (16 - j)) % dv D →
      ∃ z, Ev (fun k => regimenref03_Quotient.l1 k a D q r (i : Int) (j : Int)) z ∧ G z := by
  have hA := dok_getD ha i
  have hdr : dv (a.drop i) = a.getD i 0 + 65536 * dv (a.drop (i + 1)) := by
    rw [List.drop_eq_getElem_cons hi, dv, List.getD_eq_getElem?_getD, List.getElem?_eq_getElem hi]
    rfl
  induction d with
  | zero =>
    intro j q r hd hj dq tq dr lq lr vq vr
    obtain rfl : j = 16 := by omega
    have e : dv (a.drop (i + 1)) * 2 ^ 16 + a.getD i 0 / 2 ^ (16 - 16) = dv (a.drop i) := by
      rw [hdr]; simp; omega
    rw [e] at vq vr
    obtain ⟨z, hz, hG⟩ := H q r dq tq dr (by omega) (by omega) vq vr
    refine ⟨z, ?_, hG⟩
    refine Ev.step (f := fun k => regimenref03_Quotient.l0 k a D q r ((i : Int) - 1)) (fun k => ?_) hz
    simp only [regimenref03_Quotient.l1]
    rw [if_neg (by omega), w64_id (by omega) (by omega)]
  | succ d ih =>
    intro j q r hd hj dq tq dr lq lr vq vr
    have hb := quot_bits (a.getD i 0) j (by omega)
    obtain ⟨z, hz, hG⟩ := quot_l2 a D q r dq tq dr hD (1000 + 32 * (a.length - (i + 1)) + 2 * j) lq lr (by omega) (by omega) hD0 _ vq vr (i : Int) (a.getD i 0) hA.1 j (by omega) G (fun q' r' g1 gt g2 g3 g4 g5 g6 => by
        have e : 2 * (dv (a.drop (i + 1)) * 2 ^ j + a.getD i 0 / 2 ^ (16 - j)) + a.getD i 0 / 2 ^ (15 - j) % 2 = dv (a.drop (i + 1)) * 2 ^ (j + 1) + a.getD i 0 / 2 ^ (16 - (j + 1)) := by
          rw [show 16 - (j + 1) = 15 - j by omega, Int.pow_succ, ← Int.mul_assoc]
          omega
        rw [e] at g5 g6
        exact ih (j + 1) q' r' (by omega) (by omega) g1 gt g2 (by omega) (by omega) g5 g6) _ j (a.getD i 0) rfl (Nat.le_refl _) (by omega) (by simp) (by omega)
    refine ⟨z, ?_, hG⟩
    refine Ev.step (f := fun k => regimenref03_Quotient.l2 k a D q r (i : Int) (j : Int) (a.getD i 0) (j : Int)) (fun k => ?_) hz
    simp only [regimenref03_Quotient.l1]
    rw [if_pos (by omega), if_pos (by omega), if_pos (by omega), rd_nat]

theorem quot_l0 (a D : List Int) (ha : dok a) (hD : dok D) (hlD : D.length ≤ 1000) (hla : a.length ≤ 900) (hD0 : 0 < dv D) (i : Nat) :
    ∀ (q r : List Int), i ≤ a.length → dok q → tg q → dok r → q.length ≤ 1000 + 32 * (a.length - i) → r.length ≤ 1000 + 32 * (a.length - i) → dv q = dv (a.drop i) / dv D → dv r = dv (a.drop i) % dv D →
      ∃ z, Ev (fun k => regimenref03_Quotient.l0 k a D q r ((i : Int) - 1)) z ∧ (dok z ∧ dv z = dv a / dv D ∧ z.length ≤ 1000 + 32 * a.length ∧ tg z) := by
  induction i with
  | zero =>
    intro q r hi dq tq dr lq lr vq vr
    refine ⟨q, ?_, dq, vq, lq, tq⟩
    refine Ev.step (f := fun _ => some q) (fun k => ?_) (Ev.now _)
    simp only [regimenref03_Quotient.l0]
    rw [if_neg (by omega)]
  | succ i ih =>
    intro q r hi dq tq dr lq lr vq vr
    have hA := dok_getD ha i
    have hz0 : a.getD i 0 / 65536 = 0 := Int.ediv_eq_zero_of_lt hA.1 hA.2
    obtain ⟨z, hz, hG⟩ := quot_l1 a D ha hD hlD hla hD0 i (by omega) (fun z => dok z ∧ dv z = dv a / dv D ∧ z.length ≤ 1000 + 32 * a.length ∧ tg z) (fun q' r' g1 gt g2 g3 g4 g5 g6 => ih q' r' (by omega) g1 gt g2 g3 g4 g5 g6) _ 0 q r rfl (by omega) dq tq dr (by omega) (by omega)
      (by rw [vq, Int.pow_zero, Int.mul_one, show (2 : Int) ^ (16 - 0) = 65536 from rfl, hz0, Int.add_zero]) (by rw [vr, Int.pow_zero, Int.mul_one, show (2 : Int) ^ (16 - 0) = 65536 from rfl, hz0, Int.add_zero])
    refine ⟨z, ?_, hG⟩
    refine Ev.step (f := fun k => regimenref03_Quotient.l1 k a D q r (i : Int) ((0 : Nat) : Int)) (fun k => ?_) hz
    simp only [regimenref03_Quotient.l0]
    rw [show (((i + 1 : Nat) : Int) - 1) = (i : Int) by omega, if_pos (by omega)]
    rfl

theorem quotient_ok (a D : List Int) (ha : dok a) (hD : dok D) (hlD : D.length ≤ 1000) (hla : a.length ≤ 900) (hD0 : 0 < dv D) :
    ∃ z, Ev (fun k => regimenref03_Quotient.f k a D) z ∧ dok z ∧ dv z = dv a / dv D ∧ z.length ≤ a.length + 1 := by
  obtain ⟨z, hz, h1, h2, h3, h4⟩ := quot_l0 a D ha hD hlD hla hD0 a.length [] [] (Nat.le_refl _) dok_nil (.inl (by simp)) dok_nil (by simp) (by simp) (by simp [dv]) (by simp [dv])
  refine ⟨z, ?_, h1, h2, ?_⟩
  · refine Ev.congr (fun k => ?_) hz
    unfold regimenref03_Quotient.f
    rw [w64_id (by omega) (by omega)]
  · refine tg_len h4 ?_
    have := dv_lt ha
    have : dv a / dv D ≤ dv a := Int.ediv_le_self _ (dv_nonneg ha)
    omega

theorem odd_ok (q : List Int) (hq : dok q) : regimenref03_Odd.f q = some (decide (dv q % 2 = 1)) := by
  unfold regimenref03_Odd.f
  cases q with
  | nil => simp [dv]
  | cons x l =>
    have hx := hq x List.mem_cons_self
    rw [if_pos (by simp), if_pos (by simp)]
    have e : rd (x :: l) 0 = x := rfl
    rw [e, tmod_pos hx.1]
    congr 1
    rw [Bool.eq_iff_iff, beq_iff_eq, decide_eq_true_iff]
    simp only [dv]
    omega

theorem rounded_t (a D : List Int) (ha : dok a) (hD : dok D) (hlD : D.length ≤ 1000) (hla : a.length ≤ 900) (hD0 : 0 < dv D) :
    ∃ z, Ev (fun k => regimenref03_Rounded.f k a D) z ∧ dok z ∧ dv z = rnd (dv a) (dv D) ∧ z.length ≤ a.length + 2 := by
  obtain ⟨q, hq, dq, vq, lq⟩ := quotient_ok a D ha hD hlD hla hD0
  obtain ⟨p, hp, dp, vp, lp⟩ := times_ok q D dq hD (by omega) (by omega)
  have da : dok (a ++ [0]) := dok_snoc ha (by omega)
  have va : dv (a ++ [0]) = dv a := by rw [dv_snoc]; simp
  obtain ⟨c1, c2, c3⟩ := cut_ex (dv a) (dv D) hD0
  have hpa : dv p + dv a % dv D = dv a := by rw [vp, vq, Int.mul_comm]; omega
  obtain ⟨r, hr, dr, vr, lr⟩ := less_ok (a ++ [0]) p da dp (by simp; omega) (by rw [va]; omega)
  obtain ⟨r2, hr2, dr2, vr2, lr2⟩ := plus_ok r r dr dr 1000 (by simp at lr; omega) (by simp at lr; omega) (by omega)
  have hc := cmp_ok r2 D dr2 hD (by omega) (by omega)
  obtain ⟨q1, hq1, dq1, vq1, lq1⟩ := plus_ok q [1] dq (dok_cons (by omega) dok_nil) (a.length + 1) (by omega) (by simp) (by omega)
  have ho := odd_ok q dq
  have v2 : dv r2 = 2 * (dv a % dv D) := by rw [vr2, vr, va]; omega
  rw [v2] at hc
  rw [vq] at ho
  have vq1 : dv q1 = dv a / dv D + 1 := by rw [vq1, vq]; simp [dv]
  have main : ∀ z, Ev (fun k => if (if 2 * (dv a % dv D) < dv D then (-1 : Int) else if 2 * (dv a % dv D) > dv D then 1 else 0) > 0 then (regimenref02_Plus.f k q ([1] : List Int)).bind fun t419 => some t419 else (if (if 2 * (dv a % dv D) < dv D then (-1 : Int) else if 2 * (dv a % dv D) > dv D then 1 else 0) = 0 then (regimenref03_Odd.f q).bind fun t422 => (if t422 = true then (regimenref02_Plus.f k q ([1] : List Int)).bind fun t426 => some t426 else some q) else some q)) z → Ev (fun k => regimenref03_Rounded.f k a D) z := by
    intro z hz
    unfold regimenref03_Rounded.f
    refine Ev.bind hq ?_
    refine evs rfl ?_
    refine evp (by simp; omega) ?_
    refine evs rfl ?_
    refine evp (by simp; omega) ?_
    refine Ev.bind hp ?_
    refine Ev.bind hr ?_
    refine Ev.bind hr2 ?_
    refine Ev.bind hc ?_
    exact hz
  unfold rnd
  by_cases k1 : 2 * (dv a % dv D) > dv D
  · refine ⟨q1, main q1 ?_, dq1, ?_, by omega⟩
    · refine evp (by rw [if_neg (by omega), if_pos k1]; omega) ?_
      exact Ev.bind hq1 (Ev.now _)
    · rw [if_pos (.inl k1), vq1]
  · by_cases k2 : 2 * (dv a % dv D) = dv D
    · by_cases k3 : dv a / dv D % 2 = 1
      · refine ⟨q1, main q1 ?_, dq1, ?_, by omega⟩
        · refine evn (by rw [if_neg (by omega), if_neg k1]; omega) ?_
          refine evp (by rw [if_neg (by omega), if_neg k1]) ?_
          refine evs ho ?_
          refine evp (by simp [k3]) ?_
          exact Ev.bind hq1 (Ev.now _)
        · rw [if_pos (.inr ⟨k2, k3⟩), vq1]
      · refine ⟨q, main q ?_, dq, ?_, by omega⟩
        · refine evn (by rw [if_neg (by omega), if_neg k1]; omega) ?_
          refine evp (by rw [if_neg (by omega), if_neg k1]) ?_
          refine evs ho ?_
          refine evn (by simp [k3]) ?_
          exact Ev.now _
        · rw [if_neg (by omega), vq, Int.add_zero]
    · refine ⟨q, main q ?_, dq, ?_, by omega⟩
      · refine evn (by rw [if_pos (by omega)]; omega) ?_
        refine evn (by rw [if_pos (by omega)]; omega) ?_
        exact Ev.now _
      · rw [if_neg (by omega), vq, Int.add_zero]
theorem rounded_ok (a D : List Int) (ha : dok a) (hD : dok D) (hlD : D.length ≤ 1000) (hla : a.length ≤ 900) (hD0 : 0 < dv D) :
    ∃ z, Ev (fun k => regimenref03_Rounded.f k a D) z ∧ dok z ∧ dv z = rnd (dv a) (dv D) ∧ z.length ≤ 5000 := by
  obtain ⟨z, h1, h2, h3, h4⟩ := rounded_t a D ha hD hlD hla hD0
  exact ⟨z, h1, h2, h3, by omega⟩
end Go.Proofs.YtcgdhpnobgimfaaGreatDoor.Num
end
section
namespace Go.Proofs.YtcgdhpnobgimfaaGreatDoor.Num
open Go.RowKit Go.Proofs.YtcgdhpnobgimfaaGreatDoor.PB Go.Proofs.YtcgdhpnobgimfaaGreatDoorW.PrintWords Go.Proofs.YtcgdhpnobgimfaaGreatDoorW.PrintMore

def iabs (x : Int) : Int := if x < 0 then -x else x
def sgn (u : Int) (neg : Bool) : Int × Int := if neg = true then (if u ≤ 9223372036854775808 then (-u, 0) else (0, 4)) else (if u < 9223372036854775808 then (u, 0) else (0, 4))
def opp (x y : Int) : Bool := decide (x < 0) != decide (y < 0)
def fdiv (x y : Int) : Int × Int := if y = 0 then (0, 5) else sgn (rnd (iabs x * 4294967296) (iabs y)) (opp x y)

theorem iabs_nonneg (x : Int) : 0 ≤ iabs x := by unfold iabs; split <;> omega
theorem iabs_lt {x : Int} (h : -9223372036854775808 ≤ x ∧ x < 9223372036854775808) : iabs x ≤ 9223372036854775808 := by unfold iabs; split <;> omega
theorem rnd_nonneg {V d : Int} (h0 : 0 ≤ V) (h1 : 0 < d) : 0 ≤ rnd V d := by
  have h := rnd_bounds V d
  have := Int.ediv_nonneg h0 (Int.le_of_lt h1)
  omega
theorem near_sgn {α : Type} {V d : Int} (hd : d ≠ 0) : near V d = if rnd V d < 18446744073709551616 then (rnd V d, 0) else (0, 4) := by
  unfold near
  rw [if_neg hd]

theorem wrap_abs {x : Int} (h : -9223372036854775808 ≤ x ∧ x < 9223372036854775808) : (x < 0 → IntKind.u64.wrap (-(IntKind.u64.wrap x)) = iabs x) ∧ (¬ x < 0 → IntKind.u64.wrap x = iabs x) := by
  unfold iabs
  constructor
  · intro hx
    rw [if_pos hx, u64_mod, u64_mod]
    omega
  · intro hx
    rw [if_neg hx, u64_id (by omega) (by omega)]
theorem fix_size_ok {x : Int} (h : -9223372036854775808 ≤ x ∧ x < 9223372036854775808) : fix_Size.f x = some (iabs x) := by
  unfold fix_Size.f
  by_cases c : x < 0
  · rw [if_pos c, (wrap_abs h).1 c]
  · rw [if_neg c, (wrap_abs h).2 c]
theorem ref_size_ok {x : Int} (h : -9223372036854775808 ≤ x ∧ x < 9223372036854775808) : ∃ l, regimenref02_Size.f x = some l ∧ dok l ∧ dv l = iabs x ∧ l.length = 4 := by
  obtain ⟨l, hl, p⟩ := word_ok (iabs x) (iabs_nonneg x) (by have := iabs_lt h; omega)
  refine ⟨l, ?_, p⟩
  unfold regimenref02_Size.f
  by_cases c : x < 0
  · rw [if_pos c, (wrap_abs h).1 c, hl]
    rfl
  · rw [if_neg c, (wrap_abs h).2 c, hl]
    rfl
theorem fix_signed_ok {u : Int} (neg : Bool) (h0 : 0 ≤ u) (h1 : u < 18446744073709551616) : Ev (fun k => fix_Signed.f k u neg) (sgn u neg) := by
  unfold fix_Signed.f sgn
  cases neg with
  | true =>
    refine evp rfl ?_
    rw [if_pos rfl]
    by_cases c : u ≤ 9223372036854775808
    · rw [if_pos c, decide_eq_true c]
      refine Ev.step (f := fun _ => some _) (fun k => ?_) (Ev.now _)
      rw [fix_Signed.j0, if_pos rfl]
      congr 2
      rw [u64_mod]
      unfold wrap64
      omega
    · rw [if_neg c, decide_eq_false c]
      refine Ev.step (f := fun _ => some _) (fun k => ?_) (Ev.now _)
      rw [fix_Signed.j0, if_neg (by simp), if_pos rfl]
  | false =>
    refine evn (by simp) ?_
    rw [if_neg (by simp)]
    by_cases c : u < 9223372036854775808
    · rw [if_pos c]
      refine Ev.step (f := fun _ => some _) (fun k => ?_) (Ev.now _)
      rw [fix_Signed.j0, if_neg (by simp), if_neg (by simp), if_pos c, w64_id (by omega) (by omega)]
    · rw [if_neg c]
      refine Ev.step (f := fun _ => some _) (fun k => ?_) (Ev.now _)
      rw [fix_Signed.j0, if_neg (by simp), if_neg (by simp), if_neg c]
theorem ref_signed_ok (a : List Int) (ha : dok a) (hl : a.length < 4294967296) (neg : Bool) : Ev (fun k => regimenref04_Signed.f k a neg) (sgn (dv a) neg) := by
  obtain ⟨t, ht, dt, vt, lt⟩ := twos_ok 63 (by omega)
  have vt : dv t = 9223372036854775808 := vt
  have lt : t.length ≤ 64 := lt
  have hc := cmp_ok a t ha dt hl (by omega)
  have hm := mod_ok a ha
  have h0 := dv_nonneg ha
  rw [vt] at hc
  unfold regimenref04_Signed.f
  refine Ev.bind ht ?_
  refine Ev.bind hc ?_
  by_cases c : dv a > 9223372036854775808
  · have e : sgn (dv a) neg = (0, 4) := by
      unfold sgn
      cases neg
      · rw [if_neg (by simp), if_neg (by omega)]
      · rw [if_pos rfl, if_neg (by omega)]
    rw [e]
    refine evp (by rw [if_neg (by omega), if_pos c]; omega) ?_
    refine Ev.step (f := fun _ => some _) (fun k => ?_) (Ev.now _)
    rw [regimenref04_Signed.j0, if_pos rfl]
  · have hmm : dv a % 18446744073709551616 = dv a := Int.emod_eq_of_lt h0 (by omega)
    rw [hmm] at hm
    have fin : ∀ b : Bool, (b = false → neg = true ∨ dv a < 9223372036854775808) → (b = true → neg = false ∧ dv a = 9223372036854775808) → Ev (fun k => regimenref04_Signed.j0 k a neg b) (sgn (dv a) neg) := by
      intro b hb1 hb2
      cases b with
      | true =>
        obtain ⟨g1, g2⟩ := hb2 rfl
        subst g1
        refine Ev.step (f := fun _ => some _) (fun k => ?_) (Ev.now _)
        rw [regimenref04_Signed.j0, if_pos rfl]
        unfold sgn
        rw [if_neg (by simp), if_neg (by omega)]
      | false =>
        refine Ev.step (fun k => by rw [regimenref04_Signed.j0]) ?_
        refine evn (by simp) ?_
        refine Ev.bind hm ?_
        cases neg with
        | true =>
          refine evp rfl ?_
          refine Ev.congr (fun k => ?_) (Ev.now _)
          unfold sgn
          rw [if_pos rfl, if_pos (by omega)]
          congr 2
          rw [u64_mod]
          unfold wrap64
          omega
        | false =>
          have := (hb1 rfl).resolve_left (by simp)
          refine evn (by simp) ?_
          refine Ev.congr (fun k => ?_) (Ev.now _)
          unfold sgn
          rw [if_neg (by simp), if_pos this, w64_id (by omega) (by omega)]
    by_cases c2 : dv a < 9223372036854775808
    · rw [if_pos c2]
      refine evn (by omega) ?_
      refine evn (by omega) ?_
      exact fin false (fun _ => .inr c2) (fun h => by cases h)
    · rw [if_neg c2, if_neg c]
      refine evn (by omega) ?_
      refine evp rfl ?_
      cases neg with
      | true => exact fin _ (fun _ => .inl rfl) (fun h => by cases h)
      | false => exact fin _ (fun h => by cases h) (fun _ => ⟨rfl, by omega⟩)
end Go.Proofs.YtcgdhpnobgimfaaGreatDoor.Num
end
section
namespace Go.Proofs.YtcgdhpnobgimfaaGreatDoor.Num

theorem rnd_exact (q : Int) {d : Int} (h : 0 < d) : rnd (q * d) d = q := by
  unfold rnd
  rw [Int.mul_ediv_cancel _ (by omega), Int.mul_emod_left, if_neg (by omega)]
  omega
theorem rnd_mono {V V' d : Int} (hd : 0 < d) (h : V ≤ V') : rnd V d ≤ rnd V' d := by
  obtain ⟨e, r0, r1⟩ := cut_ex V d hd
  obtain ⟨e', r0', r1'⟩ := cut_ex V' d hd
  have hq : V / d ≤ V' / d := Int.ediv_le_ediv hd h
  have hb := rnd_bounds V d
  have hb' := rnd_bounds V' d
  by_cases c : V / d = V' / d
  · unfold rnd
    rw [c] at e ⊢
    split
    · rw [if_pos (by omega)]
      omega
    · split <;> omega
  · omega
theorem rnd_le {V d q : Int} (hd : 0 < d) (h : V ≤ q * d) : rnd V d ≤ q := by
  have := rnd_mono hd h
  rwa [rnd_exact q hd] at this
end Go.Proofs.YtcgdhpnobgimfaaGreatDoor.Num
end
section
namespace Go.Proofs.YtcgdhpnobgimfaaGreatDoor.Num
open Go.RowKit Go.Proofs.YtcgdhpnobgimfaaGreatDoor.PB Go.Proofs.YtcgdhpnobgimfaaGreatDoorW.PrintWords Go.Proofs.YtcgdhpnobgimfaaGreatDoorW.PrintMore

def nearp (V d q : Int) : Prop := (2 * V - 2 * (q * d) < d ∧ -d < 2 * V - 2 * (q * d)) ∨ ((2 * V - 2 * (q * d) = d ∨ 2 * V - 2 * (q * d) = -d) ∧ q % 2 = 0)
theorem nearp_rnd {V d : Int} (hd : 0 < d) : nearp V d (rnd V d) := by
  obtain ⟨e, r0, r1⟩ := cut_ex V d hd
  unfold nearp rnd
  have h1 : (V / d + 1) * d = d * (V / d) + d := by rw [Int.add_mul, Int.one_mul, Int.mul_comm]
  have h2 : V / d * d = d * (V / d) := Int.mul_comm _ _
  split
  · rename_i c
    rw [h1]
    rcases c with c | c
    · left; omega
    · right; omega
  · rename_i c
    rw [Int.add_zero, h2]
    by_cases t : 2 * (V % d) = d
    · right; omega
    · left; omega
theorem nearp_uniq {V d q p : Int} (hd : 0 < d) (hq : nearp V d q) (hp : nearp V d p) : q = p := by
  have key : ∀ {q p : Int}, nearp V d q → nearp V d p → ¬ q < p := by
    intro q p hq hp h
    unfold nearp at hq hp
    have m : (q + 1) * d ≤ p * d := Int.mul_le_mul_of_nonneg_right (by omega) (by omega)
    rw [Int.add_mul, Int.one_mul] at m
    have e : p * d = q * d + d := by omega
    have e2 : p * d = (q + 1) * d := by rw [Int.add_mul, Int.one_mul]; exact e
    have e3 : p = q + 1 := Int.eq_of_mul_eq_mul_right (by omega) e2
    omega
  have h1 := key hq hp
  have h2 := key hp hq
  omega
theorem rnd_of {V d q : Int} (hd : 0 < d) (h : nearp V d q) : rnd V d = q := nearp_uniq hd (nearp_rnd hd) h
theorem rnd_shift {V d : Int} (q : Int) (hd : 0 < d) (hq : q % 2 = 0) : rnd (q * d + V) d = q + rnd V d := by
  refine rnd_of hd ?_
  have h := nearp_rnd (V := V) hd
  unfold nearp at *
  rw [Int.add_mul]
  omega
theorem short {f P F : Int} (hP : 0 < P) (h : rnd (F * 4294967296) P = f) : rnd (rnd (f * P) 4294967296 * 4294967296) P = f := by
  refine rnd_of hP ?_
  have h1 := nearp_rnd (V := F * 4294967296) hP
  rw [h] at h1
  have h2 := nearp_rnd (V := f * P) (d := 4294967296) (by omega)
  generalize rnd (f * P) 4294967296 = D at *
  unfold nearp at *
  rcases Int.lt_or_le D F with c | c
  · omega
  · rcases Int.lt_or_le F D with c2 | c2
    · omega
    · have : F = D := by omega
      subst this
      exact h1
theorem short_ten (f : Int) : rnd (rnd (f * 10000000000) 4294967296 * 4294967296) 10000000000 = f := by
  refine rnd_of (by omega) ?_
  have h2 := nearp_rnd (V := f * 10000000000) (d := 4294967296) (by omega)
  generalize rnd (f * 10000000000) 4294967296 = D at *
  unfold nearp at *
  omega
theorem ten_pos (n : Nat) : (0 : Int) < 10 ^ n := Int.pow_pos (by decide)
theorem ten_even {n : Nat} (h : 0 < n) : (10 : Int) ^ n % 2 = 0 := by
  obtain ⟨m, rfl⟩ : ∃ m, n = m + 1 := ⟨n - 1, by omega⟩
  rw [Int.pow_succ]
  omega
theorem mul_even {a b : Int} (h : b % 2 = 0) : a * b % 2 = 0 := by
  rw [Int.mul_emod, h]
  simp
theorem ten_mono {m n : Nat} (h : m ≤ n) : (10 : Int) ^ m ≤ 10 ^ n := by
  obtain ⟨d, rfl⟩ := Nat.exists_eq_add_of_le h
  rw [Int.pow_add]
  have h1 := ten_pos m
  have h2 := ten_pos d
  have := Int.mul_le_mul_of_nonneg_left (show (1 : Int) ≤ 10 ^ d from h2) (Int.le_of_lt h1)
  omega
theorem valf_acc (l : List Int) : ∀ a : Int, valf a l = a * 10 ^ l.length + valf 0 l := by
  induction l with
  | nil => intro a; simp [valf]
  | cons x t ih =>
    intro a
    rw [valf_cons, valf_cons, ih, ih (10 * 0 + (x - 48)), List.length_cons, Int.pow_succ, Int.add_mul, Int.mul_zero, Int.zero_add, Int.add_assoc, Int.mul_comm 10 a, Int.mul_assoc, Int.mul_comm 10]
theorem valf_join (l m : List Int) : valf 0 (l ++ m) = valf 0 l * 10 ^ m.length + valf 0 m := by
  rw [valf_app, valf_acc]
theorem valf_bd {l : List Int} (h : ∀ x, x ∈ l → isDig x) : 0 ≤ valf 0 l ∧ valf 0 l < 10 ^ l.length := by
  have h1 := valf_mono h (Int.le_refl 0)
  have h2 := valf_lt h (a := 0) (i := 0) (by omega) (by decide)
  rw [Nat.zero_add] at h2
  exact ⟨h1, h2⟩
theorem valf_zeros (n : Nat) : valf 0 (List.replicate n 48) = 0 := by
  induction n with
  | zero => rfl
  | succ n ih =>
    rw [List.replicate_succ, valf_cons]
    exact ih
def padn : Nat → Int → List Int
  | 0, _ => []
  | n + 1, d => padn n (d / 10) ++ [48 + d % 10]
theorem padn_len (n : Nat) : ∀ d : Int, (padn n d).length = n := by
  induction n with
  | zero => intro d; rfl
  | succ n ih => intro d; simp [padn, ih]
theorem padn_dig (n : Nat) : ∀ d : Int, ∀ x, x ∈ padn n d → isDig x := by
  induction n with
  | zero => intro d x h; cases h
  | succ n ih =>
    intro d x h
    rcases List.mem_append.1 h with h | h
    · exact ih _ x h
    · rw [List.mem_singleton] at h
      unfold isDig
      omega
theorem padn_val (n : Nat) : ∀ d : Int, 0 ≤ d → d < 10 ^ n → valf 0 (padn n d) = d := by
  induction n with
  | zero =>
    intro d h0 h1
    simp at h1
    show (0 : Int) = d
    omega
  | succ n ih =>
    intro d h0 h1
    rw [Int.pow_succ] at h1
    show valf 0 (padn n (d / 10) ++ [48 + d % 10]) = d
    rw [valf_join, ih (d / 10) (by omega) (by omega)]
    simp only [valf, List.foldl, List.length_cons, List.length_nil]
    omega
theorem snoc_ex {l : List Int} {n : Nat} (h : l.length = n + 1) : ∃ m x, l = m ++ [x] ∧ m.length = n := by
  refine ⟨l.dropLast, l.getLast (by intro e; rw [e] at h; simp at h), (List.dropLast_concat_getLast _).symm, ?_⟩
  rw [List.length_dropLast, h]
  rfl
theorem padn_of (n : Nat) : ∀ l : List Int, l.length = n → (∀ x, x ∈ l → isDig x) → l = padn n (valf 0 l) := by
  induction n with
  | zero =>
    intro l h _
    rw [List.length_eq_zero_iff.1 h]
    rfl
  | succ n ih =>
    intro l h hd
    obtain ⟨m, x, rfl, hm⟩ := snoc_ex h
    have hx := hd x (by simp)
    have x0 := hx.1
    have x1 := hx.2
    have e : valf 0 (m ++ [x]) = 10 * valf 0 m + (x - 48) := by
      rw [valf_app]
      rfl
    rw [e]
    show m ++ [x] = padn n ((10 * valf 0 m + (x - 48)) / 10) ++ [48 + (10 * valf 0 m + (x - 48)) % 10]
    rw [show (10 * valf 0 m + (x - 48)) / 10 = valf 0 m from by omega, show 48 + (10 * valf 0 m + (x - 48)) % 10 = x from by omega]
    rw [← ih m hm (fun y hy => hd y (by simp [hy]))]
def tell (u : Int) : List Int := dig 20 u []
theorem tell_ex {u : Int} (h0 : 0 ≤ u) (h1 : u < 100000000000000000000) : 0 < (tell u).length ∧ (tell u).length ≤ 20 ∧ (∀ x, x ∈ tell u → isDig x) ∧ valf 0 (tell u) = u ∧ (1 < (tell u).length → (tell u).getD 0 0 ≠ 48) := by
  obtain ⟨m, e, l0, l1, hd, hv, hz⟩ := dig_props 19 u [] h0 (by have : (10 : Int) ^ (19 + 1) = 100000000000000000000 := (by decide); omega)
  rw [List.append_nil] at e
  unfold tell
  rw [e]
  exact ⟨l0, l1, hd, hv, hz⟩
theorem tell_of {l : List Int} (hl : 0 < l.length) (h20 : l.length ≤ 20) (hd : ∀ x, x ∈ l → isDig x) (hz : l.length = 1 ∨ l.getD 0 0 ≠ 48) : tell (valf 0 l) = l := by
  have := dig_val (l.length - 1) l [] 20 (by omega) hd hz h20
  rw [List.append_nil] at this
  exact this
theorem tell_len {u : Int} {n : Nat} (h0 : 0 ≤ u) (hn : 0 < n) (h20 : n ≤ 20) (h1 : u < 10 ^ n) : (tell u).length ≤ n := by
  have hm := ten_mono h20
  have e20 : (10 : Int) ^ 20 = 100000000000000000000 := by decide
  obtain ⟨l0, l1, hd, hv, hz⟩ := tell_ex h0 (by omega)
  rcases Nat.lt_or_ge n (tell u).length with c | c
  · exfalso
    have z := hz (by omega)
    generalize tell u = l at *
    cases l with
    | nil => simp at l0
    | cons x t =>
      have hx := hd x (by simp)
      have x0 := hx.1
      have z : x ≠ 48 := z
      rw [valf_cons] at hv
      have g := valf_ge (l := t) (fun y hy => hd y (by simp [hy])) (a := 10 * 0 + (x - 48)) (by omega)
      have p := ten_mono (m := n) (n := t.length) (by simp at c; omega)
      have q : 1 * (10 : Int) ^ t.length ≤ (10 * 0 + (x - 48)) * 10 ^ t.length := Int.mul_le_mul_of_nonneg_right (by omega) (Int.le_of_lt (ten_pos _))
      omega
  · exact c
theorem dig_app {l m : List Int} (hl : ∀ x, x ∈ l → isDig x) (hm : ∀ x, x ∈ m → isDig x) : ∀ x, x ∈ l ++ m → isDig x := by
  intro x h
  rcases List.mem_append.1 h with h | h
  · exact hl x h
  · exact hm x h
theorem zeros_dig (n : Nat) : ∀ x, x ∈ List.replicate n (48 : Int) → isDig x := by
  intro x h
  rw [(List.mem_replicate.1 h).2]
  exact ⟨by omega, by omega⟩
theorem pad_zeros {u : Int} {n : Nat} (h0 : 0 ≤ u) (hn : 0 < n) (h20 : n ≤ 20) (h1 : u < 10 ^ n) : List.replicate (n - (tell u).length) 48 ++ tell u = padn n u := by
  have hm := ten_mono h20
  have e20 : (10 : Int) ^ 20 = 100000000000000000000 := by decide
  obtain ⟨l0, l1, hd, hv, hz⟩ := tell_ex h0 (by omega)
  have hl := tell_len h0 hn h20 h1
  have h := padn_of n (List.replicate (n - (tell u).length) 48 ++ tell u) (by simp; omega) (dig_app (zeros_dig _) hd)
  rw [valf_join, valf_zeros, hv, Int.zero_mul, Int.zero_add] at h
  exact h
theorem split_text {W d : Int} {n : Nat} (hW : 0 ≤ W) (hW1 : W < 10000000000) (hn : 0 < n) (hn1 : n ≤ 10) (h0 : 0 ≤ d) (h1 : d < 10 ^ n) :
    List.replicate (n + 1 - (tell (W * 10 ^ n + d)).length) 48 ++ tell (W * 10 ^ n + d) = tell W ++ padn n d := by
  have hm := ten_mono hn1
  have e10 : (10 : Int) ^ 10 = 10000000000 := by decide
  have p := ten_pos n
  have hb : W * 10 ^ n ≤ 9999999999 * 10 ^ n := Int.mul_le_mul_of_nonneg_right (by omega) (by omega)
  have hb0 : 0 ≤ W * 10 ^ n := Int.mul_nonneg hW (by omega)
  obtain ⟨l0, l1, hd, hv, hz⟩ := tell_ex (u := W * 10 ^ n + d) (by omega) (by omega)
  generalize hT : tell (W * 10 ^ n + d) = T at *
  obtain ⟨Z, hZ⟩ : ∃ Z, Z = List.replicate (n + 1 - T.length) (48 : Int) ++ T := ⟨_, rfl⟩
  have hZd : ∀ x, x ∈ Z → isDig x := by rw [hZ]; exact dig_app (zeros_dig _) hd
  have hZv : valf 0 Z = W * 10 ^ n + d := by rw [hZ, valf_join, valf_zeros, hv, Int.zero_mul, Int.zero_add]
  have hZl : n + 1 ≤ Z.length := by rw [hZ]; simp; omega
  have hZl2 : Z.length ≤ 20 := by rw [hZ]; simp; omega
  rw [← hZ]
  have e := List.take_append_drop (Z.length - n) Z
  have hA : ∀ x, x ∈ Z.take (Z.length - n) → isDig x := fun x h => hZd x (List.mem_of_mem_take h)
  have hB : ∀ x, x ∈ Z.drop (Z.length - n) → isDig x := fun x h => hZd x (List.mem_of_mem_drop h)
  have lA : (Z.take (Z.length - n)).length = Z.length - n := by rw [List.length_take]; omega
  have lB : (Z.drop (Z.length - n)).length = n := by rw [List.length_drop]; omega
  have hAz : (Z.take (Z.length - n)).length = 1 ∨ (Z.take (Z.length - n)).getD 0 0 ≠ 48 := by
    by_cases c : Z.length = n + 1
    · left; omega
    · right
      have hzT : Z = T := by
        rw [hZ]
        have : n + 1 - T.length = 0 := by
          rw [hZ] at c
          simp at c
          omega
        rw [this]
        rfl
      have := hz (by rw [← hzT]; omega)
      rw [← hzT] at this
      rwa [List.getD_eq_getElem?_getD, List.getElem?_take_of_lt (by omega), ← List.getD_eq_getElem?_getD]
  have tA := tell_of (by omega) (by omega) hA hAz
  have pB := padn_of n _ lB hB
  have bB := valf_bd hB
  rw [lB] at bB
  have hv2 : valf 0 (Z.take (Z.length - n)) * 10 ^ n + valf 0 (Z.drop (Z.length - n)) = W * 10 ^ n + d := by
    have := valf_join (Z.take (Z.length - n)) (Z.drop (Z.length - n))
    rw [e, hZv, lB] at this
    exact this.symm
  have u1 := div_uniq (a := W * 10 ^ n + d) (P := 10 ^ n) (q := W) (r := d) (by rw [Int.mul_comm]) h0 h1
  have u2 := div_uniq (a := W * 10 ^ n + d) (P := 10 ^ n) (q := valf 0 (Z.take (Z.length - n))) (r := valf 0 (Z.drop (Z.length - n))) (by rw [← hv2, Int.mul_comm]) bB.1 bB.2
  rw [← e, ← tA, pB, ← u2.1, ← u2.2, u1.1, u1.2]
end Go.Proofs.YtcgdhpnobgimfaaGreatDoor.Num
end
section
namespace Go.Proofs.YtcgdhpnobgimfaaGreatDoor.Num
open Go.RowKit Go.Proofs.YtcgdhpnobgimfaaGreatDoor.PB Go.Proofs.YtcgdhpnobgimfaaGreatDoorW.PrintWords Go.Proofs.YtcgdhpnobgimfaaGreatDoorW.PrintMore

def isneg (l : List Int) : Bool := decide (0 < l.length ∧ l.getD 0 0 = 45)
def body (l : List Int) : List Int := if isneg l = true then l.drop 1 else l
def tailv (b : List Int) : Prop := lead b = b.length ∨ (b.getD (lead b) 0 = 46 ∧ lead b + 1 < b.length ∧ lead (b.drop (lead b + 1)) = b.length - (lead b + 1))
instance (b : List Int) : Decidable (tailv b) := by unfold tailv; infer_instance
def valid (b : List Int) : Prop := 0 < lead b ∧ ¬ (1 < lead b ∧ b.getD 0 0 = 48) ∧ tailv b
instance (b : List Int) : Decidable (valid b) := by unfold valid; infer_instance
def ahead (b : List Int) : List Int := b.take (lead b)
def frac (b : List Int) : List Int := b.drop (lead b + 1)
theorem drop_get (l : List Int) (p q : Nat) : (l.drop p).getD q 0 = l.getD (p + q) 0 := by
  rw [List.getD_eq_getElem?_getD, List.getD_eq_getElem?_getD, List.getElem?_drop]
theorem cutpre_ok (s : ByteArray) (c : UInt8) : strings_CutPrefix.f s ⟨#[c]⟩ = some (if 0 < s.size ∧ (numsOf s).getD 0 0 = (c.toNat : Int) then (s.extract 1 s.size, true) else (s, false)) := by
  have hc : (⟨#[c]⟩ : ByteArray).size = 1 := rfl
  unfold strings_CutPrefix.f stringslite_CutPrefix.f stringslite_HasPrefix.f
  rw [hc]
  by_cases h : 0 < s.size
  · rw [if_pos (by omega), if_pos (by omega), if_pos (by omega), Option.bind_some]
    have e : ((s.extract 0 (((1 : Nat) : Int)).toNat).toList == (⟨#[c]⟩ : ByteArray).toList) = decide ((numsOf s).getD 0 0 = (c.toNat : Int)) := by
      rw [ByteArray.toList_eq, ByteArray.toList_eq, ByteArray.data_extract, Array.toList_extract, List.extract_eq_take_drop]
      unfold numsOf
      have hs : 0 < s.data.toList.length := by rw [Array.length_toList]; exact h
      cases hl : s.data.toList with
      | nil => rw [hl] at hs; simp at hs
      | cons x t =>
        show ([x] == [c]) = decide (((x.toNat : Nat) : Int) = ((c.toNat : Nat) : Int))
        rw [Bool.eq_iff_iff, beq_iff_eq, decide_eq_true_iff]
        constructor
        · intro h
          rw [List.cons.inj h |>.1]
        · intro h
          have : x = c := UInt8.toNat_inj.1 (by omega)
          rw [this]
    rw [e]
    by_cases d : (numsOf s).getD 0 0 = (c.toNat : Int)
    · rw [if_pos (by simpa using d), if_pos (by omega), if_pos (by omega), if_pos ⟨h, d⟩]
      rfl
    · rw [if_neg (by simpa using d), if_neg (fun q => d q.2)]
      rfl
  · have e : ¬ (0 < s.size ∧ (numsOf s).getD 0 0 = (c.toNat : Int)) := fun q => h q.1
    rw [if_neg e, if_neg (by omega)]
    rfl
theorem str_nil : strOfNums [] = (⟨#[]⟩ : ByteArray) := rfl
theorem parted_j0 (neg : Bool) (t : ByteArray) (ht : t.size < 1000000) :
    Ev (fun k => dec_parted.j0 k neg (t.extract 0 (lead (numsOf t))) (t.extract (lead (numsOf t)) t.size) false) (if tailv (numsOf t) then (neg, strOfNums (ahead (numsOf t)), strOfNums (frac (numsOf t)), true) else (false, (⟨#[]⟩ : ByteArray), (⟨#[]⟩ : ByteArray), false)) := by
  have hn := nums_len t
  have hle := lead_le (numsOf t)
  have eA : t.extract 0 (lead (numsOf t)) = strOfNums (ahead (numsOf t)) := by
    rw [← str_nums (t.extract 0 (lead (numsOf t))), nums_take]
    rfl
  have eR := nums_drop t (lead (numsOf t))
  have lR : (t.extract (lead (numsOf t)) t.size).size = t.size - lead (numsOf t) := by
    rw [← nums_len, eR, List.length_drop]
    omega
  rw [eA]
  generalize hb : numsOf t = b at *
  generalize hR : t.extract (lead b) t.size = R at *
  refine Ev.step (fun k => by rw [dec_parted.j0]) ?_
  refine evn (by simp) ?_
  by_cases c1 : lead b = b.length
  · rw [if_pos (.inl c1)]
    refine evp ((toList_nil R).2 (by rw [eR, List.drop_eq_nil_of_le (by omega)])) ?_
    rw [show frac b = [] from List.drop_eq_nil_of_le (by omega), str_nil]
    exact Ev.now _
  · refine evn (fun h => ?_) ?_
    · have := (toList_nil R).1 h
      rw [eR, List.drop_eq_nil_iff] at this
      omega
    refine evs (cutpre_ok R 46) ?_
    rw [eR, drop_get, Nat.add_zero, show ((46 : UInt8).toNat : Int) = 46 from rfl]
    by_cases c2 : b.getD (lead b) 0 = 46
    · rw [if_pos ⟨by omega, c2⟩]
      refine evp rfl ?_
      have eF : numsOf (R.extract 1 R.size) = frac b := by
        rw [nums_drop, eR, List.drop_drop]
        rfl
      have lF : (R.extract 1 R.size).size = b.length - (lead b + 1) := by
        rw [← nums_len, eF]
        unfold frac
        rw [List.length_drop]
      by_cases c3 : lead b + 1 < b.length
      · refine evn (fun h => ?_) ?_
        · have := (toList_nil _).1 h
          rw [eF] at this
          unfold frac at this
          rw [List.drop_eq_nil_iff] at this
          omega
        have hF0 := lead_ok (R.extract 1 R.size) (by omega)
        rw [eF] at hF0
        refine Ev.bind hF0 ?_
        dsimp only
        rw [lF]
        have lle := lead_le (frac b)
        unfold frac at lle
        rw [List.length_drop] at lle
        by_cases c4 : lead (b.drop (lead b + 1)) = b.length - (lead b + 1)
        · rw [if_pos (show tailv b from .inr ⟨c2, c3, c4⟩)]
          refine evn (by show ¬ ((lead (b.drop (lead b + 1)) : Int) < _); omega) ?_
          have : R.extract 1 R.size = strOfNums (frac b) := by rw [← eF, str_nums]
          rw [this]
          exact Ev.now _
        · rw [if_neg (show ¬ tailv b from by unfold tailv; omega)]
          refine evp (by show ((lead (b.drop (lead b + 1)) : Int) < _); omega) ?_
          exact Ev.now _
      · rw [if_neg (show ¬ tailv b from by unfold tailv; omega)]
        refine evp ((toList_nil _).2 (by rw [eF]; exact List.drop_eq_nil_of_le (by omega))) ?_
        exact Ev.now _
    · rw [if_neg (fun h => c2 h.2), if_neg (by unfold tailv; omega)]
      refine evn (by simp) ?_
      exact Ev.now _
theorem parted_ok (s : ByteArray) (hs : s.size < 1000000) :
    Ev (fun k => dec_parted.f k s) (if valid (body (numsOf s)) then (isneg (numsOf s), strOfNums (ahead (body (numsOf s))), strOfNums (frac (body (numsOf s))), true) else (false, (⟨#[]⟩ : ByteArray), (⟨#[]⟩ : ByteArray), false)) := by
  have hn := nums_len s
  obtain ⟨t, ht, et, hz⟩ : ∃ t, strings_CutPrefix.f s ⟨#[45]⟩ = some (t, isneg (numsOf s)) ∧ numsOf t = body (numsOf s) ∧ t.size ≤ s.size := by
    have h := cutpre_ok s 45
    rw [show ((45 : UInt8).toNat : Int) = 45 from rfl] at h
    unfold body isneg
    by_cases c : 0 < s.size ∧ (numsOf s).getD 0 0 = 45
    · rw [if_pos c] at h
      rw [decide_eq_true (show 0 < (numsOf s).length ∧ _ from ⟨by omega, c.2⟩), if_pos rfl]
      refine ⟨_, h, nums_drop s 1, ?_⟩
      rw [← nums_len, nums_drop, List.length_drop]
      omega
    · rw [if_neg c] at h
      rw [decide_eq_false (fun q => c ⟨by omega, q.2⟩), if_neg (by simp)]
      exact ⟨_, h, rfl, Nat.le_refl _⟩
  rw [← et]
  have hnt := nums_len t
  have hle := lead_le (numsOf t)
  have bad : Ev (fun k => dec_parted.j0 k (isneg (numsOf s)) (t.extract 0 (lead (numsOf t))) (t.extract (lead (numsOf t)) t.size) true) (false, (⟨#[]⟩ : ByteArray), (⟨#[]⟩ : ByteArray), false) := by
    refine Ev.step (fun k => by rw [dec_parted.j0]) ?_
    exact evp rfl (Ev.now _)
  have good := parted_j0 (isneg (numsOf s)) t (by omega)
  unfold dec_parted.f
  refine evs ht ?_
  refine Ev.bind (lead_ok t (by omega)) ?_
  refine evp (by omega) ?_
  refine evp (by show (lead (numsOf t) : Int) ≤ (t.size : Int); omega) ?_
  rw [Int.toNat_natCast]
  by_cases c1 : lead (numsOf t) = 0
  · rw [if_neg (fun h => by have := h.1; omega)]
    exact evp (by omega) bad
  · refine evn (by omega) ?_
    by_cases c2 : 1 < lead (numsOf t)
    · refine evp (by omega) ?_
      refine evp (by show (0 : Int) < (t.size : Int); omega) ?_
      rw [bt0]
      by_cases c3 : (numsOf t).getD 0 0 = 48
      · rw [if_neg (fun h => h.2.1 ⟨c2, c3⟩), show ((numsOf t).getD 0 0 == 48) = true from by simpa using c3]
        exact bad
      · rw [show ((numsOf t).getD 0 0 == 48) = false from by simpa using c3]
        by_cases c4 : tailv (numsOf t)
        · rw [if_pos c4] at good
          rw [if_pos ⟨by omega, fun h => c3 h.2, c4⟩]
          exact good
        · rw [if_neg c4] at good
          rw [if_neg (fun h => c4 h.2.2)]
          exact good
    · refine evn (by omega) ?_
      by_cases c4 : tailv (numsOf t)
      · rw [if_pos c4] at good
        rw [if_pos ⟨by omega, fun h => c2 h.1, c4⟩]
        exact good
      · rw [if_neg c4] at good
        rw [if_neg (fun h => c4 h.2.2)]
        exact good
theorem lead_dig (l : List Int) : ∀ x, x ∈ l.take (lead l) → isDig x := by
  induction l with
  | nil => intro x h; cases h
  | cons y t ih =>
    intro x h
    unfold lead at h
    by_cases c : isDig y
    · rw [if_pos c, List.take_succ_cons] at h
      rcases List.mem_cons.1 h with rfl | h
      · exact c
      · exact ih x h
    · rw [if_neg c] at h
      cases h
theorem valid_dig {b : List Int} (h : valid b) : (∀ x, x ∈ ahead b → isDig x) ∧ (∀ x, x ∈ frac b → isDig x) ∧ (ahead b).length = lead b := by
  refine ⟨lead_dig b, ?_, ?_⟩
  · rcases h.2.2 with q | q
    · have : frac b = [] := List.drop_eq_nil_of_le (by omega)
      rw [this]
      intro x hx
      cases hx
    · refine (lead_all _).1 ?_
      unfold frac
      rw [q.2.2, List.length_drop]
  · unfold ahead
    rw [List.length_take]
    exact Nat.min_eq_left (lead_le b)
theorem ten19 : (10 : Int) ^ 19 = 10000000000000000000 := by decide
theorem dig_nums {l : List Int} (h : ∀ x, x ∈ l → isDig x) : numsOf (strOfNums l) = l := nums_str fun x hx => by
  have := h x hx
  unfold isDig at this
  omega
theorem count_loop (l : List Int) (hl : l.length ≤ 19) (hd : ∀ x, x ∈ l → isDig x) (e : Nat) : ∀ (i : Nat) (a : Int), i + e = l.length → 0 ≤ a → a < 10 ^ i →
    Ev (fun k => dec_count.l0 k a l (l.length : Int) (i : Int)) (valf a (l.drop i)) := by
  induction e with
  | zero =>
    intro i a h h0 h1
    refine Ev.step (fun k => by rw [dec_count.l0]) ?_
    refine evn (by omega) ?_
    rw [List.drop_eq_nil_of_le (by omega), show valf a [] = a from rfl]
    exact Ev.now _
  | succ e ih =>
    intro i a h h0 h1
    have hi : i < l.length := by omega
    have hx : isDig (l.getD i 0) := hd _ (by rw [List.getD_eq_getElem?_getD, List.getElem?_eq_getElem hi]; exact List.getElem_mem hi)
    have x0 := hx.1
    have x1 := hx.2
    have hm := ten_mono (m := i + 1) (n := 19) (by omega)
    have hp : (10 : Int) ^ (i + 1) = 10 ^ i * 10 := Int.pow_succ ..
    rw [ten19] at hm
    refine Ev.step (fun k => by rw [dec_count.l0]) ?_
    refine evp (by omega) ?_
    refine evp (by omega) ?_
    refine evp (by omega) ?_
    rw [rd_nat, drop_getD _ _ hi, valf_cons, show (l.getD i 0 - 48) % 256 = l.getD i 0 - 48 from by omega, u64_id (x := 10 * a) (by omega) (by omega), u64_id (x := 10 * a + (l.getD i 0 - 48)) (by omega) (by omega), w64_succ (by omega)]
    exact ih (i + 1) _ (by omega) (by omega) (by omega)
theorem count_ok {l : List Int} (hl : l.length ≤ 19) (hd : ∀ x, x ∈ l → isDig x) : Ev (fun k => dec_count.f k (strOfNums l)) (valf 0 l) := by
  unfold dec_count.f
  refine evp (by rw [strOfNums_size]; omega) ?_
  unfold dec_count.g
  rw [dig_nums hd]
  have := count_loop l hl hd l.length 0 0 (by omega) (by omega) (by simp)
  rw [List.drop_zero] at this
  exact this
theorem power_loop (n : Nat) (hn : n ≤ 19) (e : Nat) : ∀ i : Nat, i + e = n → Ev (fun k => dec_power.l0 k (10 ^ i) (n : Int) (i : Int)) (10 ^ n) := by
  induction e with
  | zero =>
    intro i h
    refine Ev.step (fun k => by rw [dec_power.l0]) ?_
    refine evn (by omega) ?_
    rw [show i = n from by omega]
    exact Ev.now _
  | succ e ih =>
    intro i h
    have hm := ten_mono (m := i + 1) (n := 19) (by omega)
    have hp : (10 : Int) ^ (i + 1) = 10 ^ i * 10 := Int.pow_succ ..
    have p := ten_pos i
    rw [ten19] at hm
    refine Ev.step (fun k => by rw [dec_power.l0]) ?_
    refine evp (by omega) ?_
    rw [← hp, u64_id (by omega) (by omega), w64_succ (by omega)]
    exact ih (i + 1) (by omega)
theorem power_ok (n : Nat) (hn : n ≤ 19) : Ev (fun k => dec_power.f k (n : Int)) (10 ^ n) := by
  unfold dec_power.f
  exact power_loop n hn n 0 (by omega)
theorem fraction_ok {D : Int} (n : Nat) (hn : n ≤ 19) (h0 : 0 ≤ D) (h1 : D ≤ 10 ^ n) : Ev (fun k => dec_fraction.f k D (n : Int)) (rnd (D * 4294967296) (10 ^ n)) := by
  have hm := ten_mono hn
  rw [ten19] at hm
  have hp := ten_pos n
  have hs := pair_shl_ok (a0 := 0) (a1 := D) 32 (by omega) (by omega)
  rw [show held 32 = 32 from rfl, show (2 : Int) ^ 32 = 4294967296 from by decide, Int.mul_zero, Int.add_zero] at hs
  have hN := half_near_ok (hi := D * 4294967296 / 18446744073709551616 % 18446744073709551616) (lo := D * 4294967296 % 18446744073709551616) (d := 10 ^ n) (by omega) (by omega) (by omega) (by omega) (by omega) (by omega)
  rw [show D * 4294967296 % 18446744073709551616 + 18446744073709551616 * (D * 4294967296 / 18446744073709551616 % 18446744073709551616) = D * 4294967296 from by omega] at hN
  have hr := rnd_le (V := D * 4294967296) (d := 10 ^ n) (q := 4294967296) hp (by omega)
  unfold near at hN
  rw [if_neg (by omega), if_pos (by omega)] at hN
  unfold dec_fraction.f
  refine evs hs ?_
  refine Ev.bind (power_ok n hn) ?_
  refine Ev.bind hN ?_
  exact Ev.now _
def mag (b : List Int) : Int := rnd (valf 0 (ahead b ++ frac b) * 4294967296) (10 ^ (frac b).length)
def decv (l : List Int) : Int × Int := if valid (body l) then (if (frac (body l)).length > 19 then (0, 6) else if (sgn (mag (body l)) (isneg l)).2 = 0 then ((sgn (mag (body l)) (isneg l)).1, 0) else (0, 3)) else (0, 2)
def plv (l : List Int) : Int := if valid (body l) then ((frac (body l)).length : Int) else -1
theorem mag_eq {b : List Int} (h : valid b) : mag b = valf 0 (ahead b) * 4294967296 + rnd (valf 0 (frac b) * 4294967296) (10 ^ (frac b).length) := by
  unfold mag
  rw [valf_join]
  rw [show (valf 0 (ahead b) * 10 ^ (frac b).length + valf 0 (frac b)) * 4294967296 = (valf 0 (ahead b) * 4294967296) * 10 ^ (frac b).length + valf 0 (frac b) * 4294967296 from by
    rw [Int.add_mul, Int.mul_assoc, Int.mul_assoc, Int.mul_comm (10 ^ (frac b).length)]]
  exact rnd_shift _ (ten_pos _) (by omega)
theorem mag_frac {b : List Int} (h : valid b) : 0 ≤ rnd (valf 0 (frac b) * 4294967296) (10 ^ (frac b).length) ∧ rnd (valf 0 (frac b) * 4294967296) (10 ^ (frac b).length) ≤ 4294967296 := by
  have hF := valf_bd (valid_dig h).2.1
  exact ⟨rnd_nonneg (by omega) (ten_pos _), rnd_le (ten_pos _) (by omega)⟩
theorem sgn_fail {u : Int} (b : Bool) (h : 9223372036854775808 < u) : (sgn u b).2 ≠ 0 := by
  unfold sgn
  cases b
  · rw [if_neg (by simp), if_neg (by omega)]
    decide
  · rw [if_pos rfl, if_neg (by omega)]
    decide
theorem ahead_big {b : List Int} (h : valid b) (hl : 10 < lead b) : 10000000000 ≤ valf 0 (ahead b) := by
  obtain ⟨hd, _, hn⟩ := valid_dig h
  have hz : (ahead b).getD 0 0 ≠ 48 := by
    intro e
    refine h.2.1 ⟨by omega, ?_⟩
    unfold ahead at e
    rwa [List.getD_eq_getElem?_getD, List.getElem?_take_of_lt (by omega), ← List.getD_eq_getElem?_getD] at e
  generalize ahead b = l at *
  cases l with
  | nil => simp at hn; omega
  | cons x t =>
    have hx := hd x (by simp)
    have x0 := hx.1
    have hz : x ≠ 48 := hz
    have g := valf_ge (l := t) (fun y hy => hd y (by simp [hy])) (a := 10 * 0 + (x - 48)) (by omega)
    have p := ten_mono (m := 10) (n := t.length) (by simp at hn; omega)
    have q : 1 * (10 : Int) ^ t.length ≤ (10 * 0 + (x - 48)) * 10 ^ t.length := Int.mul_le_mul_of_nonneg_right (by omega) (Int.le_of_lt (ten_pos _))
    have e10 : (10 : Int) ^ 10 = 10000000000 := by decide
    rw [valf_cons]
    omega
theorem dec_get_ok (s : ByteArray) (hs : s.size < 1000000) : Ev (fun k => dec_Get.f k s) (decv (numsOf s)) := by
  have hp := parted_ok s hs
  unfold dec_Get.f decv
  by_cases c : valid (body (numsOf s))
  · rw [if_pos c] at hp
    rw [if_pos c]
    obtain ⟨hA, hF, hn⟩ := valid_dig c
    have eq := mag_eq c
    have hr := mag_frac c
    have bA := valf_bd hA
    have bF := valf_bd hF
    refine Ev.bind hp ?_
    refine evp rfl ?_
    dsimp only
    rw [strOfNums_size, strOfNums_size]
    by_cases c2 : (frac (body (numsOf s))).length > 19
    · rw [if_pos c2]
      exact evp (by omega) (Ev.now _)
    · rw [if_neg c2]
      refine evn (by omega) ?_
      by_cases c3 : 10 < lead (body (numsOf s))
      · have := ahead_big c c3
        rw [if_neg (sgn_fail _ (by omega))]
        exact evp (by omega) (Ev.now _)
      · refine evn (by omega) ?_
        have hc := count_ok (l := ahead (body (numsOf s))) (by omega) hA
        refine Ev.bind hc ?_
        by_cases c4 : valf 0 (ahead (body (numsOf s))) > 2147483648
        · rw [if_neg (sgn_fail _ (by omega))]
          exact evp c4 (Ev.now _)
        · refine evn c4 ?_
          refine Ev.bind hc ?_
          refine Ev.bind (count_ok (by omega) hF) ?_
          refine Ev.bind (fraction_ok _ (by omega) bF.1 (by omega)) ?_
          rw [u64_id (x := valf 0 (ahead (body (numsOf s))) * 4294967296) (by omega) (by omega), ← eq, u64_id (x := mag (body (numsOf s))) (by omega) (by omega)]
          refine Ev.bind (fix_signed_ok _ (by omega) (by omega)) ?_
          by_cases c5 : (sgn (mag (body (numsOf s))) (isneg (numsOf s))).2 = 0
          · refine evp c5 ?_
            rw [if_pos c5]
            exact Ev.now _
          · refine evn c5 ?_
            rw [if_neg c5]
            exact Ev.now _
  · rw [if_neg c] at hp
    rw [if_neg c]
    refine Ev.bind hp ?_
    exact evn (by simp) (Ev.now _)
end Go.Proofs.YtcgdhpnobgimfaaGreatDoor.Num
end
section
namespace Go.Proofs.YtcgdhpnobgimfaaGreatDoor.Num
open Go.RowKit Go.Proofs.YtcgdhpnobgimfaaGreatDoor.PB Go.Proofs.YtcgdhpnobgimfaaGreatDoorW.PrintWords Go.Proofs.YtcgdhpnobgimfaaGreatDoorW.PrintMore

theorem dok_one {x : Int} (h : 0 ≤ x ∧ x < 65536) : dok [x] := dok_cons h dok_nil
theorem tens_loop (n : Nat) (hn : n ≤ 100) (e : Nat) : ∀ (i : Nat) (a : List Int), i + e = n → dok a → dv a = 10 ^ i → a.length = i + 1 →
    ∃ l, Ev (fun k => regimenref05_Tens.l0 k (n : Int) a (i : Int)) l ∧ dok l ∧ dv l = 10 ^ n ∧ l.length = n + 1 := by
  induction e with
  | zero =>
    intro i a h da va la
    obtain rfl : i = n := by omega
    refine ⟨a, ?_, da, va, la⟩
    refine Ev.step (fun k => by rw [regimenref05_Tens.l0]) ?_
    exact evn (by omega) (Ev.now _)
  | succ e ih =>
    intro i a h da va la
    obtain ⟨p, hp, dp, vp, lp⟩ := times_ok a [10] da (dok_one (by omega)) (by omega) (by simp)
    obtain ⟨l, hl, r⟩ := ih (i + 1) p (by omega) dp (by rw [vp, va, Int.pow_succ]; simp [dv]) (by rw [lp, la]; simp)
    refine ⟨l, ?_, r⟩
    refine Ev.step (fun k => by rw [regimenref05_Tens.l0]) ?_
    refine evp (by omega) ?_
    refine Ev.bind hp ?_
    rw [w64_succ (by omega)]
    exact hl
theorem tens_ok (n : Nat) (hn : n ≤ 100) : ∃ l, Ev (fun k => regimenref05_Tens.f k (n : Int)) l ∧ dok l ∧ dv l = 10 ^ n ∧ l.length = n + 1 := by
  unfold regimenref05_Tens.f
  exact tens_loop n hn n 0 [1] (by omega) (dok_one (by omega)) (by simp [dv]) (by simp)
theorem read_ok5 (a : List Int) (n : Nat) (da : dok a) (hn : n ≤ 100) (la : a.length ≤ 800) : ∃ z, Ev (fun k => regimenref05_Read.f k a (n : Int)) z ∧ dok z ∧ dv z = rnd (dv a * 4294967296) (10 ^ n) ∧ z.length ≤ a.length + 40 := by
  obtain ⟨t, ht, dt, vt, lt⟩ := twos_ok 32 (by omega)
  rw [show (2 : Int) ^ (32 : Int).toNat = 4294967296 from by decide] at vt
  have lt : t.length ≤ 33 := lt
  obtain ⟨p, hp, dp, vp, lp⟩ := times_ok a t da dt (by omega) (by omega)
  obtain ⟨d, hd, dd, vd, ld⟩ := tens_ok n hn
  have hpos := ten_pos n
  obtain ⟨z, hz, dz, vz, lz⟩ := rounded_t p d dp dd (by omega) (by omega) (by omega)
  rw [vp, vt, vd] at vz
  refine ⟨z, ?_, dz, vz, by omega⟩
  unfold regimenref05_Read.f
  refine Ev.bind ht ?_
  refine Ev.bind hp ?_
  refine Ev.bind hd ?_
  exact Ev.bind hz (Ev.now _)
theorem valid_split {b : List Int} (h : valid b) : b = ahead b ++ (if lead b = b.length then [] else 46 :: frac b) := by
  have hle := lead_le b
  by_cases c : lead b = b.length
  · rw [if_pos c, List.append_nil]
    unfold ahead
    rw [c, List.take_length]
  · rw [if_neg c]
    have q : b.getD (lead b) 0 = 46 := by
      rcases h.2.2 with q | q
      · exact absurd q c
      · exact q.1
    unfold ahead frac
    rw [← q, ← drop_getD b (lead b) (by omega), List.take_append_drop]
theorem valid_small {l : List Int} (h : valid (body l)) : ∀ x, x ∈ l → x ≤ 57 := by
  obtain ⟨hA, hF, _⟩ := valid_dig h
  have e := valid_split h
  have hb : ∀ x, x ∈ body l → x ≤ 57 := by
    intro x hx
    rw [e] at hx
    rcases List.mem_append.1 hx with q | q
    · exact (hA x q).2
    · by_cases c : lead (body l) = (body l).length
      · rw [if_pos c] at q
        cases q
      · rw [if_neg c] at q
        rcases List.mem_cons.1 q with q | q
        · omega
        · exact (hF x q).2
  intro x hx
  unfold body isneg at hb
  by_cases c : 0 < l.length ∧ l.getD 0 0 = 45
  · rw [decide_eq_true c, if_pos rfl] at hb
    cases l with
    | nil => cases hx
    | cons y t =>
      have hy : y = 45 := c.2
      rcases List.mem_cons.1 hx with q | q
      · omega
      · exact hb x q
  · rw [decide_eq_false c, if_neg (by simp)] at hb
    exact hb x hx
end Go.Proofs.YtcgdhpnobgimfaaGreatDoor.Num
end
section
namespace Go.Proofs.YtcgdhpnobgimfaaGreatDoor.Num
open Go.RowKit Go.Proofs.YtcgdhpnobgimfaaGreatDoor.PB Go.Proofs.YtcgdhpnobgimfaaGreatDoorW.PrintWords Go.Proofs.YtcgdhpnobgimfaaGreatDoorW.PrintMore

def nd (f : Int) (n : Nat) : Int := rnd (f * 10 ^ n) 4294967296
def isback (f : Int) (n : Nat) : Prop := rnd (nd f n * 4294967296) (10 ^ n) = f
def fewest (f : Int) (n : Nat) : Prop := n ≤ 10 ∧ isback f n ∧ ∀ j, j < n → ¬ isback f j
theorem nd_le {f : Int} (n : Nat) (h0 : 0 ≤ f) (h1 : f < 4294967296) : 0 ≤ nd f n ∧ nd f n ≤ 10 ^ n := by
  have p := ten_pos n
  refine ⟨rnd_nonneg (Int.mul_nonneg h0 (by omega)) (by omega), rnd_le (by omega) ?_⟩
  rw [Int.mul_comm]
  exact Int.mul_le_mul_of_nonneg_left (by omega) (by omega)
theorem nd_lt {f : Int} {n : Nat} (h0 : 0 ≤ f) (h1 : f < 4294967296) (h : isback f n) : nd f n < 10 ^ n := by
  have b := nd_le n h0 h1
  have p := ten_pos n
  rcases Int.lt_or_le (nd f n) (10 ^ n) with c | c
  · exact c
  · exfalso
    have e : nd f n = 10 ^ n := by omega
    unfold isback at h
    rw [e, Int.mul_comm, rnd_exact _ p] at h
    omega
theorem isback_ten (f : Int) : isback f 10 := by
  have := short_ten f
  unfold isback nd
  rw [show (10 : Int) ^ 10 = 10000000000 from by decide]
  exact this
theorem isback_zero {f : Int} (h0 : 0 ≤ f) (h1 : f < 4294967296) : isback f 0 ↔ f = 0 := by
  have b := nd_le 0 h0 h1
  have e := rnd_exact (nd f 0 * 4294967296) (d := 1) (by omega)
  rw [Int.mul_one] at e
  have p0 : (10 : Int) ^ 0 = 1 := rfl
  unfold isback
  rw [p0] at *
  rw [e]
  constructor
  · intro h
    omega
  · intro h
    subst h
    have : nd 0 0 = 0 := by
      unfold nd
      rw [Int.zero_mul]
      rfl
    rw [this]
    rfl
theorem fewest_ex {f : Int} : ∃ n, fewest f n := by
  have key : ∀ d i : Nat, i + d = 10 → (∀ j, j < i → ¬ isback f j) → ∃ n, fewest f n := by
    intro d
    induction d with
    | zero =>
      intro i h hj
      obtain rfl : i = 10 := by omega
      exact ⟨10, by omega, isback_ten f, hj⟩
    | succ d ih =>
      intro i h hj
      rcases Classical.em (isback f i) with c | c
      · exact ⟨i, by omega, c, hj⟩
      · refine ih (i + 1) (by omega) fun j hji => ?_
        rcases Nat.lt_or_ge j i with q | q
        · exact hj j q
        · obtain rfl : j = i := by omega
          exact c
  exact key 10 0 (by omega) (fun j h => by omega)
theorem fewest_le {f : Int} {m n : Nat} (h : fewest f m) (hn : isback f n) : m ≤ n := by
  rcases Nat.lt_or_ge n m with c | c
  · exact absurd hn (h.2.2 n c)
  · exact c
def putl (x : Int) (n : Nat) : List Int := (if x < 0 then [45] else []) ++ (tell (iabs x / 4294967296) ++ (if n = 0 then [] else 46 :: padn n (nd (iabs x % 4294967296) n)))
theorem rep_str (n : Nat) : (⟨(List.replicate n (48 : UInt8)).toArray⟩ : ByteArray) = strOfNums (List.replicate n 48) := by
  unfold strOfNums
  rw [List.map_replicate]
  rfl
theorem zeros_ok {c : Int} (h0 : 0 ≤ c) (h1 : c ≤ 200) : strings_Repeat.f ⟨#[48]⟩ c = some (strOfNums (List.replicate c.toNat 48)) := by
  unfold strings_Repeat.f
  rw [if_pos ⟨h0, by omega, by show 1 * c.toNat ≤ _; omega⟩]
  have := Lib.repeatL_replicate 48 1 c.toNat
  rw [Nat.mul_one] at this
  rw [← rep_str, ← this]
  rfl
theorem tellv_pos {u : Int} (h : 0 ≤ u) : tellv u = strOfNums (tell u) := by
  unfold tellv
  rw [if_neg (by omega)]
  rfl
theorem behind_loop {f : Int} {n : Nat} (h0 : 0 < f) (h1 : f < 4294967296) (hf : fewest f n) (e : Nat) : ∀ i : Nat, i + e = n → 0 < i → Ev (fun k => dec_behind.l0 k f (i : Int)) (strOfNums (padn n (nd f n))) := by
  have h10 := hf.1
  have one : ∀ i : Nat, 0 < i → i ≤ 10 → ∀ {R : ByteArray}, (isback f i → i = n ∧ R = strOfNums (padn n (nd f n))) → (¬ isback f i → Ev (fun k => dec_behind.l0 k f ((i + 1 : Nat) : Int)) R) → Ev (fun k => dec_behind.l0 k f (i : Int)) R := by
    intro i hi0 hi R hb hnb
    have hm := ten_mono (m := i) (n := 19) (by omega)
    have hm10 := ten_mono (m := i) (n := 10) (by omega)
    have e10 : (10 : Int) ^ 10 = 10000000000 := by decide
    rw [ten19] at hm
    have p := ten_pos i
    have bd := nd_le i (Int.le_of_lt h0) h1
    have hmul := pair_mul_ok (x := f) (y := 10 ^ i) (by omega) (by omega) (by omega) (by omega)
    have hp := mul_bd (x := f) (y := 10 ^ i) (M := 4294967295) (N := 10000000000) (by omega) (by omega) (by omega) (by omega)
    have hs := half_shift_ok (hi := f * 10 ^ i / 18446744073709551616) (lo := f * 10 ^ i % 18446744073709551616) 32 (by omega) (by omega)
    rw [show f * 10 ^ i % 18446744073709551616 + 18446744073709551616 * (f * 10 ^ i / 18446744073709551616) = f * 10 ^ i from by omega, show (2 : Int) ^ min (32 : Int).toNat 63 = 4294967296 from rfl] at hs
    unfold near at hs
    have hnd : rnd (f * 10 ^ i) 4294967296 = nd f i := rfl
    rw [if_neg (by omega), hnd, if_pos (by omega)] at hs
    refine Ev.step (fun k => by rw [dec_behind.l0]) ?_
    refine evp (by omega) ?_
    refine Ev.bind (power_ok i (by omega)) ?_
    refine evs hmul ?_
    refine Ev.bind hs ?_
    refine Ev.bind (fraction_ok i (by omega) bd.1 bd.2) ?_
    by_cases c : isback f i
    · obtain ⟨rfl, rfl⟩ := hb c
      refine evp c ?_
      have lt := nd_lt (Int.le_of_lt h0) h1 c
      have tl := tell_len bd.1 hi0 (by omega) lt
      dsimp only
      rw [w64_id (x := nd f i) (by omega) (by omega)]
      refine Ev.bind (tell_ok (n := nd f i) (by omega)) ?_
      rw [tellv_pos bd.1, strOfNums_size, w64_id (by omega) (by omega)]
      refine evs (zeros_ok (c := (i : Int) - ((tell (nd f i)).length : Int)) (by omega) (by omega)) ?_
      refine evp (by rw [strOfNums_size, List.length_replicate]; omega) ?_
      rw [str_app, show ((i : Int) - ((tell (nd f i)).length : Int)).toNat = i - (tell (nd f i)).length from by omega, pad_zeros bd.1 hi0 (by omega) lt]
      exact Ev.now _
    · refine evn c ?_
      rw [w64_succ (by omega)]
      exact hnb c
  induction e with
  | zero =>
    intro i h hi
    obtain rfl : i = n := by omega
    exact one i hi h10 (fun _ => ⟨rfl, rfl⟩) (fun q => absurd hf.2.1 q)
  | succ e ih =>
    intro i h hi
    have nx := ih (i + 1) (by omega) (by omega)
    exact one i hi (by omega) (fun q => absurd q (hf.2.2 i (by omega))) (fun _ => nx)
theorem behind_ok {f : Int} {n : Nat} (h0 : 0 < f) (h1 : f < 4294967296) (hf : fewest f n) : 0 < n ∧ Ev (fun k => dec_behind.f k f) (strOfNums (padn n (nd f n))) := by
  have hn : 0 < n := by
    rcases Nat.eq_zero_or_pos n with c | c
    · subst c
      have := (isback_zero (Int.le_of_lt h0) h1).1 hf.2.1
      omega
    · exact c
  refine ⟨hn, ?_⟩
  unfold dec_behind.f
  exact behind_loop h0 h1 hf (n - 1) 1 (by omega) (by omega)
theorem fewest_zero {f : Int} {n : Nat} (h0 : 0 ≤ f) (h1 : f < 4294967296) (h : fewest f n) : n = 0 ↔ f = 0 := by
  constructor
  · intro c
    subst c
    exact (isback_zero h0 h1).1 h.2.1
  · intro c
    have := fewest_le h ((isback_zero h0 h1).2 c)
    omega
theorem dec_put_ok {x : Int} (hx : -9223372036854775808 ≤ x ∧ x < 9223372036854775808) {n : Nat} (hf : fewest (iabs x % 4294967296) n) : Ev (fun k => dec_Put.f k x) (strOfNums (putl x n)) := by
  have u0 := iabs_nonneg x
  have u1 := iabs_lt hx
  have hz := fewest_zero (f := iabs x % 4294967296) (by omega) (by omega) hf
  have hlo := u64_lo32 (x := iabs x) u0 (by omega)
  have lT := (tell_ex (u := iabs x / 4294967296) (by omega) (by omega)).2.1
  unfold dec_Put.f putl
  refine evs (fix_size_ok hx) ?_
  rw [w64_id (x := iabs x / 4294967296) (by omega) (by omega)]
  refine Ev.bind (tell_ok (n := iabs x / 4294967296) (by omega)) ?_
  rw [tellv_pos (by omega), hlo, show (⟨#[45]⟩ : ByteArray) = strOfNums [45] from by decide +kernel, show (⟨#[46]⟩ : ByteArray) = strOfNums [46] from by decide +kernel]
  by_cases c : x < 0
  · rw [if_pos c]
    refine evp c ?_
    refine evp (by rw [strOfNums_size]; omega) ?_
    by_cases d : iabs x % 4294967296 = 0
    · rw [if_pos (hz.2 d), str_app, List.append_nil]
      exact evp d (Ev.now _)
    · rw [if_neg (fun q => d (hz.1 q))]
      have hb := (behind_ok (by omega) (by omega) hf).2
      have lp := padn_len n (nd (iabs x % 4294967296) n)
      have h10 := hf.1
      refine evn d ?_
      refine Ev.bind hb ?_
      refine evp (by rw [strOfNums_size]; omega) ?_
      rw [str_app, str_app]
      refine evp (by rw [strOfNums_size, strOfNums_size]; simp; omega) ?_
      rw [str_app, List.append_assoc]
      exact Ev.now _
  · rw [if_neg c, List.nil_append]
    refine evn c ?_
    by_cases d : iabs x % 4294967296 = 0
    · rw [if_pos (hz.2 d), List.append_nil]
      exact evp d (Ev.now _)
    · rw [if_neg (fun q => d (hz.1 q))]
      have hb := (behind_ok (by omega) (by omega) hf).2
      have lp := padn_len n (nd (iabs x % 4294967296) n)
      have h10 := hf.1
      refine evn d ?_
      refine Ev.bind hb ?_
      refine evp (by rw [strOfNums_size]; omega) ?_
      rw [str_app]
      refine evp (by rw [strOfNums_size, strOfNums_size]; simp; omega) ?_
      rw [str_app]
      exact Ev.now _
theorem lead_app {A r : List Int} (hA : ∀ x, x ∈ A → isDig x) (hr : r = [] ∨ ¬ isDig (r.getD 0 0)) : lead (A ++ r) = A.length := by
  induction A with
  | nil =>
    cases r with
    | nil => rfl
    | cons y t =>
      rcases hr with q | q
      · cases q
      · exact if_neg q
  | cons x t ih =>
    rw [List.cons_append, show lead (x :: (t ++ r)) = lead (t ++ r) + 1 from if_pos (hA x (by simp)), ih (fun y hy => hA y (by simp [hy]))]
    rfl
def fracl (n : Nat) (d : Int) : List Int := if n = 0 then [] else 46 :: padn n d
theorem parts {W d : Int} {n : Nat} (h0 : 0 ≤ W) (h1 : W < 10000000000) : valid (tell W ++ fracl n d) ∧ ahead (tell W ++ fracl n d) = tell W ∧ frac (tell W ++ fracl n d) = padn n d := by
  obtain ⟨l0, l1, hd, hv, hz⟩ := tell_ex h0 (by omega)
  have pd := padn_dig n d
  have pl := padn_len n d
  generalize tell W = T at *
  have hl : lead (T ++ fracl n d) = T.length := by
    refine lead_app hd ?_
    unfold fracl
    split
    · exact .inl rfl
    · exact .inr (by unfold isDig; show ¬ ((48 : Int) ≤ 46 ∧ _); omega)
  have hF : frac (T ++ fracl n d) = padn n d := by
    unfold frac
    rw [hl, ← List.drop_drop, List.drop_left]
    unfold fracl
    by_cases c : n = 0
    · subst c
      rfl
    · rw [if_neg c]
      rfl
  refine ⟨⟨by omega, ?_, ?_⟩, ?_, hF⟩
  · rw [hl]
    rintro ⟨q1, q2⟩
    refine hz q1 ?_
    rwa [List.getD_eq_getElem?_getD, List.getElem?_append_left (by omega), ← List.getD_eq_getElem?_getD] at q2
  · unfold tailv
    have hF2 := hF
    unfold frac at hF2
    rw [hF2, hl]
    by_cases c : n = 0
    · left
      unfold fracl
      rw [if_pos c, List.append_nil]
    · right
      refine ⟨?_, ?_, ?_⟩
      · unfold fracl
        rw [if_neg c, List.getD_eq_getElem?_getD, List.getElem?_append_right (by omega), Nat.sub_self]
        rfl
      · unfold fracl
        rw [if_neg c, List.length_append, List.length_cons, pl]
        omega
      · rw [(lead_all _).2 pd, pl]
        unfold fracl
        rw [if_neg c, List.length_append, List.length_cons, pl]
        omega
  · unfold ahead
    rw [hl, List.take_left']
    rfl
theorem putl_body (x : Int) (n : Nat) (hx : -9223372036854775808 ≤ x ∧ x < 9223372036854775808) : isneg (putl x n) = decide (x < 0) ∧ body (putl x n) = tell (iabs x / 4294967296) ++ fracl n (nd (iabs x % 4294967296) n) := by
  have u0 := iabs_nonneg x
  have u1 := iabs_lt hx
  obtain ⟨l0, l1, hd, hv, hz⟩ := tell_ex (u := iabs x / 4294967296) (by omega) (by omega)
  have e : putl x n = (if x < 0 then [45] else []) ++ (tell (iabs x / 4294967296) ++ fracl n (nd (iabs x % 4294967296) n)) := rfl
  generalize tell (iabs x / 4294967296) = T at *
  rw [e]
  by_cases c : x < 0
  · rw [if_pos c]
    have hn : isneg ([45] ++ (T ++ fracl n (nd (iabs x % 4294967296) n))) = true := decide_eq_true ⟨by simp, rfl⟩
    refine ⟨by rw [hn, decide_eq_true c], ?_⟩
    unfold body
    rw [hn, if_pos rfl]
    rfl
  · rw [if_neg c, List.nil_append]
    have hn : isneg (T ++ fracl n (nd (iabs x % 4294967296) n)) = false := by
      refine decide_eq_false ?_
      rintro ⟨_, q⟩
      rw [List.getD_eq_getElem?_getD, List.getElem?_append_left (by omega), List.getElem?_eq_getElem (by omega)] at q
      have := hd _ (List.getElem_mem (show 0 < T.length by omega))
      rw [Option.getD_some] at q
      rw [q] at this
      exact absurd this.1 (by decide)
    refine ⟨by rw [hn, decide_eq_false c], ?_⟩
    unfold body
    rw [hn, if_neg (by simp)]
theorem putl_byte (x : Int) (n : Nat) (hx : -9223372036854775808 ≤ x ∧ x < 9223372036854775808) : numsOf (strOfNums (putl x n)) = putl x n ∧ (putl x n).length ≤ 22 + n := by
  have u0 := iabs_nonneg x
  have u1 := iabs_lt hx
  obtain ⟨l0, l1, hd, hv, hz⟩ := tell_ex (u := iabs x / 4294967296) (by omega) (by omega)
  have pd := padn_dig n (nd (iabs x % 4294967296) n)
  have pl := padn_len n (nd (iabs x % 4294967296) n)
  constructor
  · refine nums_str fun y hy => ?_
    unfold putl at hy
    rcases List.mem_append.1 hy with q | q
    · by_cases c : x < 0
      · rw [if_pos c, List.mem_singleton] at q
        omega
      · rw [if_neg c] at q
        cases q
    · rcases List.mem_append.1 q with q | q
      · have := hd y q
        unfold isDig at this
        omega
      · by_cases c : n = 0
        · rw [if_pos c] at q
          cases q
        · rw [if_neg c] at q
          rcases List.mem_cons.1 q with q | q
          · omega
          · have := pd y q
            unfold isDig at this
            omega
  · unfold putl
    rw [List.length_append, List.length_append]
    have a : (if x < 0 then [(45 : Int)] else []).length ≤ 1 := by split <;> simp
    have b : (if n = 0 then [] else 46 :: padn n (nd (iabs x % 4294967296) n)).length ≤ n + 1 := by
      split
      · simp
      · rw [List.length_cons, pl]
        omega
    omega
theorem sgn_abs {x : Int} (hx : -9223372036854775808 ≤ x ∧ x < 9223372036854775808) : sgn (iabs x) (decide (x < 0)) = (x, 0) := by
  unfold sgn iabs
  by_cases c : x < 0
  · rw [decide_eq_true c, if_pos rfl, if_pos c, if_pos (by omega), Int.neg_neg]
  · rw [decide_eq_false c, if_neg (by simp), if_neg c, if_pos (by omega)]
theorem putl_back {x : Int} (hx : -9223372036854775808 ≤ x ∧ x < 9223372036854775808) {n : Nat} (hf : fewest (iabs x % 4294967296) n) : decv (putl x n) = (x, 0) ∧ plv (putl x n) = n := by
  have u0 := iabs_nonneg x
  have u1 := iabs_lt hx
  have h10 := hf.1
  obtain ⟨hs, hb⟩ := putl_body x n hx
  obtain ⟨pv, pa, pf⟩ := parts (W := iabs x / 4294967296) (d := nd (iabs x % 4294967296) n) (n := n) (by omega) (by omega)
  have pl := padn_len n (nd (iabs x % 4294967296) n)
  have lt := nd_lt (f := iabs x % 4294967296) (by omega) (by omega) hf.2.1
  have bd := nd_le (f := iabs x % 4294967296) n (by omega) (by omega)
  have tv := (tell_ex (u := iabs x / 4294967296) (by omega) (by omega)).2.2.2.1
  have hm : mag (body (putl x n)) = iabs x := by
    rw [hb, mag_eq pv, pa, pf, pl, tv, padn_val n _ bd.1 lt]
    have := hf.2.1
    unfold isback at this
    rw [this]
    omega
  constructor
  · unfold decv
    rw [hm, hs, sgn_abs hx, hb, if_pos pv, pf, pl, if_neg (by omega), if_pos rfl]
  · unfold plv
    rw [hb, if_pos pv, pf, pl]
end Go.Proofs.YtcgdhpnobgimfaaGreatDoor.Num
end
section
namespace Go.Proofs.YtcgdhpnobgimfaaGreatDoor.Num
open Go.RowKit Go.Proofs.YtcgdhpnobgimfaaGreatDoor.PB Go.Proofs.YtcgdhpnobgimfaaGreatDoorW.PrintWords Go.Proofs.YtcgdhpnobgimfaaGreatDoorW.PrintMore

theorem low_digit {r : List Int} (hr : dok r) {v : Int} (h : dv r = v) (h0 : 0 ≤ v) (h1 : v < 65536) (hl : 0 < r.length) : r.getD 0 0 = v := by
  cases r with
  | nil => simp at hl
  | cons x t =>
    have hx := hr x List.mem_cons_self
    have ht := dv_nonneg (dok_tail hr)
    simp only [dv] at h
    show x = v
    omega
theorem text5_loop (m : Nat) : ∀ (u : Int) (a : List Int) (acc : List Int), dok a → dv a = u → 0 ≤ u → u < 10 ^ (m + 1) → a.length + m ≤ 300 → acc.length + m ≤ 100 →
    Ev (fun k => regimenref05_Text.j1 k a (⟨#[48, 49, 50, 51, 52, 53, 54, 55, 56, 57]⟩ : ByteArray) (strOfNums acc) true) (strOfNums (dig (m + 1) u acc)) := by
  have step : ∀ (u : Int) (a : List Int) (acc : List Int) {R : ByteArray}, dok a → dv a = u → 0 ≤ u → a.length ≤ 300 → acc.length ≤ 100 →
      (∀ q : List Int, dok q → dv q = u / 10 → q.length ≤ a.length + 1 → Ev (fun k => regimenref05_Text.l0 k q (⟨#[48, 49, 50, 51, 52, 53, 54, 55, 56, 57]⟩ : ByteArray) (strOfNums ((48 + u % 10) :: acc))) R) →
      Ev (fun k => regimenref05_Text.j1 k a (⟨#[48, 49, 50, 51, 52, 53, 54, 55, 56, 57]⟩ : ByteArray) (strOfNums acc) true) R := by
    intro u a acc R da va h0 la lacc H
    have hten : dv [10] = 10 := by simp [dv]
    obtain ⟨q, hq, dq, vq, lq⟩ := quotient_ok a [10] da (dok_one (by omega)) (by simp) (by omega) (by omega)
    rw [va, hten] at vq
    obtain ⟨p, hp, dp, vp, lp⟩ := times_ok q [10] dq (dok_one (by omega)) (by omega) (by simp)
    rw [vq, hten] at vp
    have da0 : dok (a ++ [0]) := dok_snoc da (by omega)
    have va0 : dv (a ++ [0]) = u := by rw [dv_snoc, va]; simp
    obtain ⟨r, hr, dr, vr, lr⟩ := less_ok (a ++ [0]) p da0 dp (by simp; omega) (by rw [va0, vp]; omega)
    have lr : r.length = a.length + 1 := by rw [lr]; simp
    have v : r.getD 0 0 = u % 10 := low_digit dr (by rw [vr, va0, vp]; omega) (by omega) (by omega) (by omega)
    have hn := digit_str (u % 10).toNat (by omega)
    have e : (⟨#[48, 49, 50, 51, 52, 53, 54, 55, 56, 57]⟩ : ByteArray).extract (u % 10).toNat (u % 10 + 1).toNat = strOfNums [48 + u % 10] := by
      rw [show (u % 10 + 1).toNat = (u % 10).toNat + 1 from by omega, hn, show ((u % 10).toNat : Int) = u % 10 from by omega]
    refine Ev.step (fun k => by rw [regimenref05_Text.j1]) ?_
    refine evp rfl ?_
    refine Ev.bind hq ?_
    refine evs rfl ?_
    refine evp (by simp; omega) ?_
    refine evs rfl ?_
    refine evp (by simp; omega) ?_
    refine Ev.bind hp ?_
    rw [List.nil_append]
    refine Ev.bind hr ?_
    refine evp (by omega) ?_
    rw [show rd r 0 = r.getD 0 0 from rd_nat r 0, v, u64_id (x := u % 10 + 1) (by omega) (by omega), e]
    refine evp (by omega) ?_
    refine evp (by omega) ?_
    refine evp (by show u % 10 + 1 ≤ 10; omega) ?_
    refine evp (by rw [strOfNums_size, strOfNums_size]; simp only [List.length_cons, List.length_nil]; omega) ?_
    rw [str_app]
    exact H q dq vq lq
  have stop : ∀ (q : List Int) (l : List Int) {R : ByteArray}, dok q → q.length ≤ 1000 → 0 < l.length → (dv q = 0 → R = strOfNums l) → (0 < dv q → Ev (fun k => regimenref05_Text.j1 k q (⟨#[48, 49, 50, 51, 52, 53, 54, 55, 56, 57]⟩ : ByteArray) (strOfNums l) true) R) →
      Ev (fun k => regimenref05_Text.l0 k q (⟨#[48, 49, 50, 51, 52, 53, 54, 55, 56, 57]⟩ : ByteArray) (strOfNums l)) R := by
    intro q l R dq lq hl h0 h1
    have nn := dv_nonneg dq
    have hc := cmp_ok q [] dq dok_nil (by omega) (by simp)
    rw [show dv [] = 0 from rfl] at hc
    refine Ev.step (fun k => by rw [regimenref05_Text.l0]) ?_
    refine evn (by rw [strOfNums_size]; omega) ?_
    refine Ev.bind hc ?_
    by_cases c : dv q = 0
    · rw [if_neg (by omega), if_neg (by omega), h0 c]
      refine Ev.step (fun k => by rw [regimenref05_Text.j1]) ?_
      exact evn (by decide) (Ev.now _)
    · rw [if_neg (by omega), if_pos (by omega)]
      exact h1 (by omega)
  induction m with
  | zero =>
    intro u a acc da va h0 h1 la lacc
    have h1 : u < 10 := by simpa using h1
    refine step u a acc da va h0 (by omega) (by omega) fun q dq vq lq => ?_
    refine stop q _ dq (by omega) (by simp) (fun _ => ?_) (fun h => by omega)
    rw [show dig (0 + 1) u acc = (48 + u % 10) :: acc from if_pos (by omega)]
  | succ m ih =>
    intro u a acc da va h0 h1 la lacc
    rw [Int.pow_succ] at h1
    refine step u a acc da va h0 (by omega) (by omega) fun q dq vq lq => ?_
    refine stop q _ dq (by omega) (by simp) (fun h => ?_) (fun h => ?_)
    · rw [show dig (m + 1 + 1) u acc = (48 + u % 10) :: acc from if_pos (by omega)]
    · rw [show dig (m + 1 + 1) u acc = dig (m + 1) (u / 10) ((48 + u % 10) :: acc) from if_neg (by omega)]
      exact ih (u / 10) q _ dq vq (by omega) (by omega) (by omega) (by simp only [List.length_cons]; omega)
theorem text5_ok {a : List Int} {u : Int} (da : dok a) (va : dv a = u) (h0 : 0 ≤ u) (h1 : u < 100000000000000000000) (la : a.length ≤ 200) : Ev (fun k => regimenref05_Text.f k a) (strOfNums (tell u)) := by
  have t := text5_loop 19 u a [] da va h0 (by have : (10 : Int) ^ (19 + 1) = 100000000000000000000 := (by decide); omega) (by omega) (by simp)
  unfold regimenref05_Text.f
  refine Ev.step (fun k => by rw [regimenref05_Text.l0]) ?_
  refine evp (by decide) ?_
  exact t
theorem put_l1 (sign : List Int) (hs : sign.length ≤ 1) {T : List Int} {n : Nat} (hn : n ≤ 10) (e : Nat) : ∀ i : Nat, i + e = n + 1 - T.length → i + T.length ≤ 100 → 0 < T.length →
    Ev (fun k => regimenref05_Put.l1 k (strOfNums sign) (n : Int) (strOfNums (List.replicate i 48 ++ T)))
      (if n = 0 then strOfNums (sign ++ (List.replicate (n + 1 - T.length) 48 ++ T)) else strOfNums (sign ++ ((List.replicate (n + 1 - T.length) 48 ++ T).take ((List.replicate (n + 1 - T.length) 48 ++ T).length - n) ++ (46 :: (List.replicate (n + 1 - T.length) 48 ++ T).drop ((List.replicate (n + 1 - T.length) 48 ++ T).length - n))))) := by
  induction e with
  | zero =>
    intro i h hl hT
    obtain rfl : i = n + 1 - T.length := by omega
    obtain ⟨Z, hZ⟩ : ∃ Z, Z = List.replicate (n + 1 - T.length) 48 ++ T := ⟨_, rfl⟩
    have lZ : Z.length = (n + 1 - T.length) + T.length := by rw [hZ]; simp
    rw [← hZ]
    refine Ev.step (fun k => by rw [regimenref05_Put.l1]) ?_
    rw [strOfNums_size, strOfNums_size]
    refine evn (by omega) ?_
    by_cases c : n = 0
    · rw [if_pos c]
      refine evp (by omega) ?_
      refine evp (by omega) ?_
      rw [str_app]
      exact Ev.now _
    · rw [if_neg c]
      refine evn (by omega) ?_
      rw [w64_id (x := (Z.length : Int) - (n : Int)) (by omega) (by omega)]
      have eT : ((Z.length : Int) - (n : Int)).toNat = Z.length - n := by omega
      rw [eT]
      have e1 : (strOfNums Z).extract 0 (Z.length - n) = strOfNums (Z.take (Z.length - n)) := by
        apply ByteArray.ext
        rw [ByteArray.data_extract]
        apply Array.toList_inj.1
        rw [Array.toList_extract, List.extract_eq_take_drop]
        simp [strOfNums]
      have e2 : (strOfNums Z).extract (Z.length - n) Z.length = strOfNums (Z.drop (Z.length - n)) := by
        apply ByteArray.ext
        rw [ByteArray.data_extract]
        apply Array.toList_inj.1
        rw [Array.toList_extract, List.extract_eq_take_drop]
        show List.take _ (List.drop _ (Z.map fun n => UInt8.ofNat n.toNat)) = (Z.drop _).map _
        rw [List.map_drop, List.take_of_length_le (by rw [List.length_drop, List.length_map]; exact Nat.le_refl _)]
      rw [e1, e2, show (⟨#[46]⟩ : ByteArray) = strOfNums [46] from by decide +kernel, str_app, str_app, str_app, strOfNums_size, strOfNums_size, strOfNums_size, strOfNums_size]
      refine evp (by omega) ?_
      refine evp (by omega) ?_
      refine evp (by rw [List.length_take]; omega) ?_
      refine evp (by rw [List.length_append, List.length_take]; omega) ?_
      refine evp (by rw [List.length_append, List.length_append, List.length_take, List.length_drop]; simp; omega) ?_
      rw [show sign ++ (Z.take (Z.length - n) ++ (46 :: Z.drop (Z.length - n))) = ((sign ++ Z.take (Z.length - n)) ++ [46]) ++ Z.drop (Z.length - n) from by simp]
      exact Ev.now _
  | succ e ih =>
    intro i h hl hT
    have nx := ih (i + 1) (by omega) (by omega) hT
    refine Ev.step (fun k => by rw [regimenref05_Put.l1]) ?_
    refine evp (by rw [strOfNums_size, List.length_append, List.length_replicate]; omega) ?_
    refine evp (by rw [strOfNums_size, List.length_append, List.length_replicate]; omega) ?_
    rw [show (⟨#[48]⟩ : ByteArray) = strOfNums [48] from by decide +kernel, str_app]
    rw [List.replicate_succ] at nx
    exact nx
theorem back_iff {W f : Int} (hf0 : 0 ≤ f) (hf1 : f < 4294967296) (n : Nat) : rnd ((W * 4294967296 + f) * 10 ^ n) 4294967296 = (if n = 0 then rnd (W * 4294967296 + f) 4294967296 else W * 10 ^ n + nd f n) ∧ (rnd (rnd ((W * 4294967296 + f) * 10 ^ n) 4294967296 * 4294967296) (10 ^ n) = W * 4294967296 + f ↔ isback f n) := by
  have p := ten_pos n
  by_cases c : n = 0
  · subst c
    rw [if_pos rfl, show (10 : Int) ^ 0 = 1 from rfl, Int.mul_one]
    refine ⟨rfl, ?_⟩
    have e := rnd_exact (rnd (W * 4294967296 + f) 4294967296 * 4294967296) (d := 1) (by omega)
    rw [Int.mul_one] at e
    rw [e, isback_zero hf0 hf1]
    constructor
    · intro h
      omega
    · intro h
      rw [h, Int.add_zero, rnd_exact W (by omega)]
  · rw [if_neg c]
    have ev := ten_even (n := n) (by omega)
    have e1 : rnd ((W * 4294967296 + f) * 10 ^ n) 4294967296 = W * 10 ^ n + nd f n := by
      have : (W * 4294967296 + f) * 10 ^ n = (W * 10 ^ n) * 4294967296 + f * 10 ^ n := by
        rw [Int.add_mul, Int.mul_assoc, Int.mul_assoc, Int.mul_comm (10 ^ n)]
      rw [this]
      exact rnd_shift _ (by omega) (mul_even ev)
    refine ⟨e1, ?_⟩
    rw [e1]
    have e2 : (W * 10 ^ n + nd f n) * 4294967296 = (W * 4294967296) * 10 ^ n + nd f n * 4294967296 := by
      rw [Int.add_mul, Int.mul_assoc, Int.mul_assoc, Int.mul_comm (10 ^ n)]
    rw [e2, rnd_shift _ p (by omega)]
    unfold isback
    omega
theorem ref_put_l0 {x : Int} (hx : -9223372036854775808 ≤ x ∧ x < 9223372036854775808) {n : Nat} (hf : fewest (iabs x % 4294967296) n) {a : List Int} (da : dok a) (va : dv a = iabs x) (la : a.length ≤ 4) (e : Nat) : ∀ i : Nat, i + e = n →
    Ev (fun k => regimenref05_Put.l0 k a (strOfNums (if x < 0 then [45] else [])) (i : Int)) (strOfNums (putl x n)) := by
  have u0 := iabs_nonneg x
  have u1 := iabs_lt hx
  have h10 := hf.1
  have hu : iabs x / 4294967296 * 4294967296 + iabs x % 4294967296 = iabs x := by omega
  have one : ∀ i : Nat, i ≤ 10 → ∀ {R : ByteArray}, (isback (iabs x % 4294967296) i → ∀ D : List Int, dok D → dv D = rnd (iabs x * 10 ^ i) 4294967296 → D.length ≤ 60 → Ev (fun k => (regimenref05_Text.f k D).bind fun t => regimenref05_Put.l1 k (strOfNums (if x < 0 then [45] else [])) (i : Int) t) R) → (¬ isback (iabs x % 4294967296) i → Ev (fun k => regimenref05_Put.l0 k a (strOfNums (if x < 0 then [45] else [])) ((i + 1 : Nat) : Int)) R) → Ev (fun k => regimenref05_Put.l0 k a (strOfNums (if x < 0 then [45] else [])) (i : Int)) R := by
    intro i hi R hb hnb
    have bk := (back_iff (W := iabs x / 4294967296) (f := iabs x % 4294967296) (by omega) (by omega) i).2
    rw [hu] at bk
    obtain ⟨t, ht, dt, vt, lt⟩ := tens_ok i (by omega)
    obtain ⟨p, hp, dp, vp, lp⟩ := times_ok a t da dt (by omega) (by omega)
    obtain ⟨w, hw, dw, vw, lw⟩ := twos_ok 32 (by omega)
    rw [show (2 : Int) ^ (32 : Int).toNat = 4294967296 from by decide] at vw
    have lw : w.length ≤ 33 := lw
    obtain ⟨D, hD, dD, vD, lD⟩ := rounded_t p w dp dw (by omega) (by omega) (by omega)
    rw [vp, va, vt, vw] at vD
    obtain ⟨z, hz, dz, vz, lz⟩ := read_ok5 D i dD (by omega) (by omega)
    rw [vD] at vz
    have hc := cmp_ok z a dz da (by omega) (by omega)
    rw [vz, va] at hc
    refine Ev.step (fun k => by rw [regimenref05_Put.l0]) ?_
    refine evp (by omega) ?_
    refine Ev.bind ht ?_
    refine Ev.bind hp ?_
    refine Ev.bind hw ?_
    refine Ev.bind hD ?_
    refine Ev.bind hz ?_
    refine Ev.bind hc ?_
    by_cases c : isback (iabs x % 4294967296) i
    · have := bk.2 c
      refine evp (by rw [if_neg (by omega), if_neg (by omega)]) ?_
      exact hb c D dD vD (by omega)
    · have : ¬ _ := fun q => c (bk.1 q)
      refine evn (by split; (omega); split <;> omega) ?_
      rw [w64_succ (by omega)]
      exact hnb c
  induction e with
  | zero =>
    intro i h
    obtain rfl : i = n := by omega
    refine one i h10 (fun _ D dD vD lD => ?_) (fun q => absurd hf.2.1 q)
    have bk := (back_iff (W := iabs x / 4294967296) (f := iabs x % 4294967296) (by omega) (by omega) i).1
    rw [hu] at bk
    have hs : (if x < 0 then [(45 : Int)] else []).length ≤ 1 := by split <;> simp
    have hz := fewest_zero (f := iabs x % 4294967296) (by omega) (by omega) hf
    by_cases c : i = 0
    · have f0 := hz.1 c
      have vD2 : dv D = iabs x / 4294967296 := by
        have e := rnd_exact (iabs x / 4294967296) (d := 4294967296) (by omega)
        rw [show iabs x / 4294967296 * 4294967296 = iabs x from by omega] at e
        rw [vD, bk, if_pos c]
        exact e
      refine Ev.bind (text5_ok dD vD2 (by omega) (by omega) (by omega)) ?_
      obtain ⟨l0, l1, hd, hv, hzz⟩ := tell_ex (u := iabs x / 4294967296) (by omega) (by omega)
      have l := put_l1 (if x < 0 then [45] else []) hs (T := tell (iabs x / 4294967296)) (n := i) (by omega) 0 0 (by omega) (by omega) l0
      rw [if_pos c, show i + 1 - (tell (iabs x / 4294967296)).length = 0 from by omega] at l
      unfold putl
      rw [if_pos c, List.append_nil]
      exact l
    · have lt := nd_lt (f := iabs x % 4294967296) (by omega) (by omega) hf.2.1
      have bd := nd_le (f := iabs x % 4294967296) i (by omega) (by omega)
      have vD2 : dv D = iabs x / 4294967296 * 10 ^ i + nd (iabs x % 4294967296) i := by
        rw [vD, bk, if_neg c]
      have hm := ten_mono (m := i) (n := 10) (by omega)
      have e10 : (10 : Int) ^ 10 = 10000000000 := by decide
      have p := ten_pos i
      have hb := mul_bd (x := iabs x / 4294967296) (y := 10 ^ i) (M := 2147483648) (N := 10000000000) (by omega) (by omega) (by omega) (by omega)
      refine Ev.bind (text5_ok dD vD2 (by omega) (by omega) (by omega)) ?_
      obtain ⟨l0, l1, hd, hv, hzz⟩ := tell_ex (u := iabs x / 4294967296 * 10 ^ i + nd (iabs x % 4294967296) i) (by omega) (by omega)
      have sp := split_text (W := iabs x / 4294967296) (d := nd (iabs x % 4294967296) i) (n := i) (by omega) (by omega) (by omega) (by omega) bd.1 lt
      have l := put_l1 (if x < 0 then [45] else []) hs (T := tell (iabs x / 4294967296 * 10 ^ i + nd (iabs x % 4294967296) i)) (n := i) (by omega) (i + 1 - (tell (iabs x / 4294967296 * 10 ^ i + nd (iabs x % 4294967296) i)).length) 0 (by omega) (by omega) l0
      have pl := padn_len i (nd (iabs x % 4294967296) i)
      rw [if_neg c, sp, List.length_append, pl, Nat.add_sub_cancel, List.take_left', List.drop_left'] at l
      · unfold putl
        rw [if_neg c]
        exact l
      · rfl
      · rfl
  | succ e ih =>
    intro i h
    have nx := ih (i + 1) (by omega)
    exact one i (by omega) (fun q => absurd q (hf.2.2 i (by omega))) (fun _ => nx)
theorem ref_put_ok {x : Int} (hx : -9223372036854775808 ≤ x ∧ x < 9223372036854775808) {n : Nat} (hf : fewest (iabs x % 4294967296) n) : Ev (fun k => regimenref05_Put.f k x) (strOfNums (putl x n)) := by
  obtain ⟨a, ha, da, va, la⟩ := ref_size_ok hx
  have l := ref_put_l0 hx hf da va (by omega) n 0 (by omega)
  unfold regimenref05_Put.f
  refine evs ha ?_
  by_cases c : x < 0
  · rw [if_pos c] at l
    refine evp c ?_
    refine Ev.step (fun k => by rw [regimenref05_Put.j0]) ?_
    exact l
  · rw [if_neg c] at l
    refine evn c ?_
    refine Ev.step (fun k => by rw [regimenref05_Put.j0]) ?_
    exact l
end Go.Proofs.YtcgdhpnobgimfaaGreatDoor.Num
end
section
namespace Go.Proofs.YtcgdhpnobgimfaaGreatDoor.Num
open Go.RowKit Go.Proofs.YtcgdhpnobgimfaaGreatDoor.PB Go.Proofs.YtcgdhpnobgimfaaGreatDoorW.PrintWords Go.Proofs.YtcgdhpnobgimfaaGreatDoorW.PrintMore

theorem tl_eq (s t : ByteArray) : s.toList = t.toList ↔ s = t := by
  rw [ByteArray.toList_eq, ByteArray.toList_eq]
  constructor
  · intro h
    exact ByteArray.ext (Array.ext' h)
  · rintro rfl
    rfl
theorem nums_inj {s t : ByteArray} (h : numsOf s = numsOf t) : s = t := by rw [← str_nums s, ← str_nums t, h]
def bef (c : Int) : List Int → List Int
  | [] => []
  | x :: t => if x = c then [] else x :: bef c t
theorem bef_some {c : Int} : ∀ {l : List Int}, c ∈ l → l = bef c l ++ c :: l.drop ((bef c l).length + 1) ∧ c ∉ bef c l
  | [], h => by cases h
  | x :: t, h => by
    by_cases e : x = c
    · subst e
      rw [show bef x (x :: t) = [] from if_pos rfl]
      exact ⟨rfl, by simp⟩
    · rw [show bef c (x :: t) = x :: bef c t from if_neg e]
      have hm : c ∈ t := by
        rcases List.mem_cons.1 h with q | q
        · exact absurd q.symm e
        · exact q
      obtain ⟨h1, h2⟩ := bef_some hm
      refine ⟨?_, ?_⟩
      · rw [List.cons_append, List.length_cons, List.drop_succ_cons, ← h1]
      · intro q
        rcases List.mem_cons.1 q with q | q
        · exact e q.symm
        · exact h2 q
theorem bef_of {c : Int} : ∀ {a r : List Int}, c ∉ a → bef c (a ++ c :: r) = a
  | [], r, _ => if_pos rfl
  | x :: t, r, h => by
    rw [List.cons_append, show bef c (x :: (t ++ c :: r)) = x :: bef c (t ++ c :: r) from if_neg (fun e => h (by simp [e])), bef_of (fun q => h (by simp [q]))]
theorem bef_le {c : Int} {l : List Int} (h : c ∈ l) : (bef c l).length < l.length := by
  have := congrArg List.length (bef_some h).1
  rw [List.length_append, List.length_cons] at this
  omega
theorem bef_take {c : Int} {l : List Int} (h : c ∈ l) : l.take (bef c l).length = bef c l := by
  have e := congrArg (List.take (bef c l).length) (bef_some h).1
  rw [List.take_left' rfl] at e
  exact e
theorem index_list (c : UInt8) : ∀ L : List UInt8, Lib.indexByte L c = if (c.toNat : Int) ∈ L.map (fun b => (b.toNat : Int)) then ((bef (c.toNat : Int) (L.map fun b => (b.toNat : Int))).length : Int) else -1
  | [] => rfl
  | b :: t => by
    have ih := index_list c t
    show (if b == c then 0 else if Lib.indexByte t c == -1 then -1 else Lib.indexByte t c + 1) = _
    rw [List.map_cons]
    by_cases e : b = c
    · subst e
      rw [if_pos (by simp), if_pos (by simp), show bef (b.toNat : Int) ((b.toNat : Int) :: _) = [] from if_pos rfl]
      rfl
    · have ne : (b.toNat : Int) ≠ (c.toNat : Int) := fun q => e (UInt8.toNat_inj.1 (by omega))
      rw [if_neg (by simpa using e), show bef (c.toNat : Int) ((b.toNat : Int) :: t.map _) = (b.toNat : Int) :: bef (c.toNat : Int) (t.map _) from if_neg ne]
      by_cases m : (c.toNat : Int) ∈ t.map (fun b => (b.toNat : Int))
      · rw [if_pos m] at ih
        have n1 : ¬ ((Lib.indexByte t c == -1) = true) := by
          rw [beq_iff_eq, ih]
          omega
        rw [if_neg n1, if_pos (List.mem_cons_of_mem _ m), ih, List.length_cons]
        omega
      · rw [if_neg m] at ih
        have n1 : (Lib.indexByte t c == -1) = true := by rw [ih]; rfl
        have n2 : ¬ ((c.toNat : Int) ∈ (b.toNat : Int) :: t.map (fun b => (b.toNat : Int))) := fun q => by
          rcases List.mem_cons.1 q with q | q
          · exact ne q.symm
          · exact m q
        rw [if_pos n1, if_neg n2]
theorem index_nums (s : ByteArray) (c : UInt8) : Lib.indexByte s.data.toList c = if (c.toNat : Int) ∈ numsOf s then ((bef (c.toNat : Int) (numsOf s)).length : Int) else -1 := index_list c _
theorem nums_one (b : UInt8) : numsOf (⟨#[b]⟩ : ByteArray) = [(b.toNat : Int)] := rfl
theorem cut_ok (s : ByteArray) (hs : s.size < 1000000) (b : UInt8) : strings_Cut.f s (⟨#[b]⟩ : ByteArray) =
    some (if (b.toNat : Int) ∈ numsOf s then (strOfNums (bef (b.toNat : Int) (numsOf s)), strOfNums ((numsOf s).drop ((bef (b.toNat : Int) (numsOf s)).length + 1)), true) else (s, (⟨#[]⟩ : ByteArray), false)) := by
  have hi : stringslite_Index.f s (⟨#[b]⟩ : ByteArray) = some (Lib.indexByte s.data.toList b) := by
    unfold stringslite_Index.f
    have e : (bt (⟨#[b]⟩ : ByteArray) 0).toNat.toUInt8 = b := by
      rw [bt0, nums_one]
      simp
    have h1 : (⟨#[b]⟩ : ByteArray).size = 1 := rfl
    rw [if_pos h1, e]
  unfold strings_Cut.f stringslite_Cut.f
  rw [hi, Option.bind_some, index_nums]
  have hl := nums_len s
  by_cases m : (b.toNat : Int) ∈ numsOf s
  · have lt := bef_le m
    have tk := bef_take m
    have w : wrap64 (((bef (b.toNat : Int) (numsOf s)).length : Int) + ((⟨#[b]⟩ : ByteArray).size : Int)) = ((bef (b.toNat : Int) (numsOf s)).length : Int) + 1 := w64_id (by show -9223372036854775808 ≤ (_ : Int) + 1; omega) (by show (_ : Int) + 1 < _; omega)
    rw [if_pos m, if_pos m, w]
    rw [if_pos (by omega), if_pos (by omega), if_pos (by omega), if_pos (by omega), if_pos (by omega), Option.bind_some]
    have e1 : s.extract 0 ((bef (b.toNat : Int) (numsOf s)).length : Int).toNat = strOfNums (bef (b.toNat : Int) (numsOf s)) := by
      rw [Int.toNat_natCast, ← str_nums (s.extract 0 _), nums_take, tk]
    have e2 : s.extract (((bef (b.toNat : Int) (numsOf s)).length : Int) + 1).toNat s.size = strOfNums ((numsOf s).drop ((bef (b.toNat : Int) (numsOf s)).length + 1)) := by
      rw [← str_nums (s.extract _ s.size), nums_drop, show (((bef (b.toNat : Int) (numsOf s)).length : Int) + 1).toNat = (bef (b.toNat : Int) (numsOf s)).length + 1 from by omega]
    rw [e1, e2]
  · rw [if_neg m, if_neg m, if_neg (by omega), Option.bind_some]
end Go.Proofs.YtcgdhpnobgimfaaGreatDoor.Num
end
section
namespace Go.Proofs.YtcgdhpnobgimfaaGreatDoor.Num
open Go.RowKit Go.Proofs.YtcgdhpnobgimfaaGreatDoor.PB Go.Proofs.YtcgdhpnobgimfaaGreatDoorW.PrintWords Go.Proofs.YtcgdhpnobgimfaaGreatDoorW.PrintMore

theorem tellv_size {n : Int} (h : -9223372036854775808 ≤ n ∧ n < 9223372036854775808) : (tellv n).size ≤ 21 := by
  unfold tellv
  split
  · obtain ⟨m, e, l0, l1, _⟩ := dig_props 19 (-n) [] (by omega) (by have := p20; omega)
    rw [strOfNums_size, List.length_cons, e, List.append_nil]
    omega
  · obtain ⟨m, e, l0, l1, _⟩ := dig_props 19 n [] (by omega) (by have := p20; omega)
    rw [strOfNums_size, e, List.append_nil]
    omega
def telll (n : Int) : List Int := if n < 0 then 45 :: dig 20 (-n) [] else dig 20 n []
theorem tellv_telll (n : Int) : tellv n = strOfNums (telll n) := by
  unfold tellv telll
  split <;> rfl
theorem telll_byte {n : Int} (h : -9223372036854775808 ≤ n ∧ n < 9223372036854775808) : numsOf (tellv n) = telll n ∧ ∀ x, x ∈ telll n → x = 45 ∨ isDig x := by
  have key : ∀ u : Int, 0 ≤ u → u ≤ 9223372036854775808 → ∀ x, x ∈ dig 20 u [] → isDig x := by
    intro u h0 h1
    obtain ⟨m, e, l0, l1, hd, _⟩ := dig_props 19 u [] h0 (by have := p20; omega)
    rw [e, List.append_nil]
    exact hd
  have a : ∀ x, x ∈ telll n → x = 45 ∨ isDig x := by
    unfold telll
    split
    · intro x hx
      rcases List.mem_cons.1 hx with q | q
      · exact .inl q
      · exact .inr (key _ (by omega) (by omega) x q)
    · intro x hx
      exact .inr (key _ (by omega) (by omega) x hx)
  refine ⟨?_, a⟩
  rw [tellv_telll]
  refine nums_str fun x hx => ?_
  rcases a x hx with q | q
  · omega
  · unfold isDig at q
    omega
theorem telll_get {n : Int} (h : -9223372036854775808 ≤ n ∧ n < 9223372036854775808) : (n < 0 ∨ n > 1099511627776 → (getv (telll n)).2 ≠ 0) ∧ (¬ (n < 0 ∨ n > 1099511627776) → getv (telll n) = (n, 0)) := by
  constructor
  · rintro q e
    obtain ⟨b, _, v1, v0, hd⟩ := get_back e
    unfold telll at *
    by_cases c : n < 0
    · rw [if_pos c] at b
      exact b (.inr (.inl (by
        rw [show lead (45 :: dig 20 (-n) []) = 0 from if_neg (by unfold isDig; omega)]
        simp)))
    · rw [if_neg c] at v1
      obtain ⟨m, e, l0, l1, hd, hv, _⟩ := dig_props 19 n [] (by omega) (by have := p20; omega)
      rw [e, List.append_nil, hv] at v1
      omega
  · intro q
    unfold telll
    rw [if_neg (by omega)]
    exact (get_of (u := n) (by omega) (by omega)).1
def wordsL : List ByteArray := [(⟨#[]⟩ : ByteArray), (⟨#[112, 104, 97, 115, 101]⟩ : ByteArray), (⟨#[116, 104, 97, 119]⟩ : ByteArray), (⟨#[102, 114, 101, 101, 122, 101]⟩ : ByteArray), (⟨#[115, 119, 97]⟩ : ByteArray), (⟨#[102, 97, 105, 108]⟩ : ByteArray), (⟨#[109, 105, 115, 115]⟩ : ByteArray), (⟨#[107, 101, 101, 112]⟩ : ByteArray), (⟨#[100, 114, 111, 112]⟩ : ByteArray), (⟨#[99, 117, 116]⟩ : ByteArray), (⟨#[115, 116, 111, 112]⟩ : ByteArray), (⟨#[101, 110, 100]⟩ : ByteArray)]
def word (k : Int) : ByteArray := if 0 ≤ k ∧ k < 12 then rdOf ByteArray.empty wordsL k else ⟨#[]⟩
theorem word_ok36 (k : Int) : events_Word.f k = some (word k) := by
  unfold events_Word.f word
  split <;> rfl
theorem word_nat : ∀ i : Nat, i < 12 → (numsOf (word i)).length ≤ 6 ∧ 32 ∉ numsOf (word i) ∧ numsOf (word i) ≠ [63] ∧ (i = 0 ↔ numsOf (word i) = []) := by decide +kernel
theorem word_nat2 : ∀ i : Nat, i < 12 → ∀ j : Nat, j < 12 → numsOf (word i) = numsOf (word j) → i = j := by decide +kernel
theorem word_all (k : Int) : (word k).size ≤ 6 ∧ 32 ∉ numsOf (word k) ∧ ((word k).toList = ([] : List UInt8) ↔ ¬ (1 ≤ k ∧ k ≤ 11)) := by
  rw [toList_nil, ← nums_len]
  by_cases c : 0 ≤ k ∧ k < 12
  · obtain ⟨i, rfl⟩ : ∃ i : Nat, k = (i : Int) := ⟨k.toNat, by omega⟩
    have w := word_nat i (by omega)
    refine ⟨w.1, w.2.1, ?_⟩
    rw [← w.2.2.2]
    omega
  · have e : word k = ⟨#[]⟩ := if_neg c
    rw [e]
    refine ⟨by decide, by decide, ?_⟩
    simp only [show numsOf (⟨#[]⟩ : ByteArray) = [] from rfl, true_iff]
    omega
def headW (k : Int) : ByteArray := if 1 ≤ k ∧ k ≤ 11 then word k else ⟨#[63]⟩
def lineV (k n : Int) : ByteArray := headW k ++ (⟨#[32]⟩ : ByteArray) ++ tellv n
theorem headW_all (k : Int) : (headW k).size ≤ 6 ∧ 32 ∉ numsOf (headW k) := by
  unfold headW
  split
  · exact ⟨(word_all k).1, (word_all k).2.1⟩
  · exact ⟨by decide, by decide⟩
theorem size_app (a b : ByteArray) : (a ++ b).size = a.size + b.size := ByteArray.size_append
theorem line_nums {k n : Int} (h : -9223372036854775808 ≤ n ∧ n < 9223372036854775808) : numsOf (lineV k n) = numsOf (headW k) ++ 32 :: telll n := by
  unfold lineV
  rw [nums_app, nums_app, (telll_byte h).1, nums_one, List.append_assoc]
  rfl
theorem line_size {k n : Int} (h : -9223372036854775808 ≤ n ∧ n < 9223372036854775808) : (lineV k n).size ≤ 28 := by
  unfold lineV
  rw [size_app, size_app]
  have := (headW_all k).1
  have := tellv_size h
  have e : (⟨#[32]⟩ : ByteArray).size = 1 := rfl
  omega
theorem line_ok (s k : Int) {n : Int} (h : -9223372036854775808 ≤ n ∧ n < 9223372036854775808) : Ev (fun q => events_Line.f q s k n) (lineV k n) := by
  have w := word_all k
  have t := tellv_size h
  have e : (⟨#[32]⟩ : ByteArray).size = 1 := rfl
  unfold events_Line.f lineV headW
  refine evs (word_ok36 k) ?_
  by_cases c : 1 ≤ k ∧ k ≤ 11
  · rw [if_pos c]
    refine evn (fun q => w.2.2.1 q c) ?_
    refine evp (by omega) ?_
    refine Ev.bind (tell_ok h) ?_
    refine evp (by rw [size_app]; omega) ?_
    exact Ev.now _
  · rw [if_neg c]
    refine evp (w.2.2.2 c) ?_
    refine evp (by omega) ?_
    refine Ev.bind (tell_ok h) ?_
    refine evp (by rw [size_app]; have e2 : (⟨#[63]⟩ : ByteArray).size = 1 := rfl; omega) ?_
    exact Ev.now _
def findW (a : List Int) : Nat → Nat → Option Nat
  | 0, _ => none
  | d + 1, i => if numsOf (word i) = a then some i else findW a d (i + 1)
def parsed (step : Int) (l : List Int) (d i : Nat) : Int × Int × Int × Bool :=
  if 32 ∈ l ∧ (getv (l.drop ((bef 32 l).length + 1))).2 = 0 then
    (match findW (bef 32 l) d i with
      | some j => (step, (j : Int), (getv (l.drop ((bef 32 l).length + 1))).1, true)
      | none => (0, 0, 0, false))
  else (0, 0, 0, false)
theorem parse_loop (step n : Int) (a : ByteArray) (d : Nat) : ∀ i : Nat, i + d = 12 → Ev (fun q => events_Parse.l0 q step a n (i : Int)) (match findW (numsOf a) d i with | some j => (step, (j : Int), n, true) | none => (0, 0, 0, false)) := by
  induction d with
  | zero =>
    intro i h
    refine Ev.step (fun q => by rw [events_Parse.l0]) ?_
    exact evn (by omega) (Ev.now _)
  | succ d ih =>
    intro i h
    refine Ev.step (fun q => by rw [events_Parse.l0]) ?_
    refine evp (by omega) ?_
    refine evs (word_ok36 _) ?_
    by_cases c : numsOf (word i) = numsOf a
    · rw [show findW (numsOf a) (d + 1) i = some i from if_pos c]
      exact evp ((tl_eq _ _).2 (nums_inj c)) (Ev.now _)
    · rw [show findW (numsOf a) (d + 1) i = findW (numsOf a) d (i + 1) from if_neg c]
      refine evn (fun q => c (by rw [(tl_eq _ _).1 q])) ?_
      rw [w64_succ (by omega)]
      exact ih (i + 1) (by omega)
theorem parse_ok (step : Int) (s : ByteArray) (hs : s.size < 1000000) : Ev (fun q => events_Parse.f q step s) (parsed step (numsOf s) 11 1) := by
  have hl := nums_len s
  have hb := nums_byte s
  unfold events_Parse.f parsed
  refine evs (cut_ok s hs 32) ?_
  rw [show ((32 : UInt8).toNat : Int) = 32 from rfl]
  by_cases m : 32 ∈ numsOf s
  · have lt := bef_le m
    have hA : numsOf (strOfNums (bef 32 (numsOf s))) = bef 32 (numsOf s) := nums_str fun x hx => hb x (by
      rw [← bef_take m] at hx
      exact List.mem_of_mem_take hx)
    have hR : numsOf (strOfNums ((numsOf s).drop ((bef 32 (numsOf s)).length + 1))) = (numsOf s).drop ((bef 32 (numsOf s)).length + 1) := nums_str fun x hx => hb x (List.mem_of_mem_drop hx)
    have g := get_ok (strOfNums ((numsOf s).drop ((bef 32 (numsOf s)).length + 1))) (by rw [strOfNums_size, List.length_drop]; omega)
    rw [hR] at g
    rw [if_pos m]
    refine Ev.bind g ?_
    refine evp rfl ?_
    refine Ev.step (fun q => by rw [events_Parse.j0]) ?_
    by_cases z : (getv ((numsOf s).drop ((bef 32 (numsOf s)).length + 1))).2 = 0
    · rw [if_pos ⟨m, z⟩]
      refine evn (by rw [bne_iff_ne]; exact fun q => q z) ?_
      have p := parse_loop step (getv ((numsOf s).drop ((bef 32 (numsOf s)).length + 1))).1 (strOfNums (bef 32 (numsOf s))) 11 1 (by omega)
      rw [hA] at p
      exact p
    · rw [if_neg (fun q => z q.2)]
      exact evp (by rw [bne_iff_ne]; exact z) (Ev.now _)
  · rw [if_neg m, if_neg (fun q => m q.1)]
    refine Ev.bind (get_ok _ (show (0 : Nat) < 1000000 by decide)) ?_
    refine evn (by simp) ?_
    refine Ev.step (fun q => by rw [events_Parse.j0]) ?_
    exact evp rfl (Ev.now _)
theorem find_some {a : List Int} (d : Nat) : ∀ (i j : Nat), findW a d i = some j → i ≤ j ∧ j < i + d ∧ numsOf (word j) = a := by
  induction d with
  | zero =>
    intro i j h
    cases h
  | succ d ih =>
    intro i j h
    by_cases c : numsOf (word i) = a
    · rw [show findW a (d + 1) i = some i from if_pos c] at h
      cases h
      exact ⟨Nat.le_refl _, by omega, c⟩
    · rw [show findW a (d + 1) i = findW a d (i + 1) from if_neg c] at h
      have := ih _ _ h
      exact ⟨by omega, by omega, this.2.2⟩
theorem find_none {a : List Int} (d : Nat) : ∀ (i : Nat), findW a d i = none → ∀ j, i ≤ j → j < i + d → numsOf (word j) ≠ a := by
  induction d with
  | zero =>
    intro i h j h0 h1
    omega
  | succ d ih =>
    intro i h j h0 h1
    by_cases c : numsOf (word i) = a
    · rw [show findW a (d + 1) i = some i from if_pos c] at h
      cases h
    · rw [show findW a (d + 1) i = findW a d (i + 1) from if_neg c] at h
      rcases Nat.lt_or_ge i j with q | q
      · exact ih _ h j (by omega) (by omega)
      · obtain rfl : i = j := by omega
        exact c
theorem parsed_line (s k : Int) {n : Int} (h : -9223372036854775808 ≤ n ∧ n < 9223372036854775808) : parsed s (numsOf (lineV k n)) 11 1 = if (1 ≤ k ∧ k ≤ 11) ∧ ¬ (n < 0 ∨ n > 1099511627776) then (s, k, n, true) else (0, 0, 0, false) := by
  have hw := (headW_all k).2
  rw [line_nums h]
  unfold parsed
  have hb : bef 32 (numsOf (headW k) ++ 32 :: telll n) = numsOf (headW k) := bef_of hw
  have hd : (numsOf (headW k) ++ 32 :: telll n).drop ((numsOf (headW k)).length + 1) = telll n := by
    rw [← List.drop_drop, List.drop_left]
    rfl
  rw [hb, hd]
  have g := telll_get h
  by_cases c : n < 0 ∨ n > 1099511627776
  · rw [if_neg (fun q => g.1 c q.2), if_neg (fun q => q.2 c)]
  · rw [g.2 c, if_pos ⟨by simp, rfl⟩]
    by_cases d : 1 ≤ k ∧ k ≤ 11
    · rw [if_pos ⟨d, c⟩]
      have e : headW k = word k := if_pos d
      rw [e]
      obtain ⟨i, rfl⟩ : ∃ i : Nat, k = (i : Int) := ⟨k.toNat, by omega⟩
      cases f : findW (numsOf (word i)) 11 1 with
      | none => exact absurd rfl (find_none 11 1 f i (by omega) (by omega))
      | some j =>
        have := find_some 11 1 j f
        have := word_nat2 j (by omega) i (by omega) this.2.2
        subst this
        rfl
    · rw [if_neg (fun q => d q.1)]
      have e : headW k = ⟨#[63]⟩ := if_neg d
      rw [e]
      cases f : findW (numsOf (⟨#[63]⟩ : ByteArray)) 11 1 with
      | none => rfl
      | some j =>
        have q := find_some 11 1 j f
        exact absurd q.2.2 (word_nat j (by omega)).2.2.1
end Go.Proofs.YtcgdhpnobgimfaaGreatDoor.Num
end
section
namespace Go.Proofs.YtcgdhpnobgimfaaGreatDoor.Num
open Go.RowKit Go.Proofs.YtcgdhpnobgimfaaGreatDoor.PB Go.Proofs.YtcgdhpnobgimfaaGreatDoorW.PrintWords Go.Proofs.YtcgdhpnobgimfaaGreatDoorW.PrintMore

end Go.Proofs.YtcgdhpnobgimfaaGreatDoor.Num
end
section
namespace Go.Proofs.YtcgdhpnobgimfaaGreatDoor.Num
open Go.RowKit Go.Proofs.YtcgdhpnobgimfaaGreatDoor.PB Go.Proofs.YtcgdhpnobgimfaaGreatDoorW.PrintWords Go.Proofs.YtcgdhpnobgimfaaGreatDoorW.PrintMore

theorem same1_l0 (l : List Int) (m : Nat) : ∀ {i : Nat}, i + m = l.length → l.length ≤ 1000000 → Ev (fun k => regimenref01_Same.l0 k l l (i : Int)) true := by
  induction m with
  | zero =>
    intro i h hl
    refine Ev.step (fun k => by rw [regimenref01_Same.l0]) ?_
    exact evn (by omega) (Ev.now _)
  | succ m ih =>
    intro i h hl
    refine Ev.step (fun k => by rw [regimenref01_Same.l0]) ?_
    refine evp (by omega) ?_
    refine evp (by omega) ?_
    refine evp (by omega) ?_
    refine evp rfl ?_
    rw [w64_succ (by omega)]
    exact ih (by omega) hl
theorem same1_ok (l : List Int) (hl : l.length ≤ 1000000) : Ev (fun k => regimenref01_Same.f k l l) true := by
  unfold regimenref01_Same.f
  refine evp rfl ?_
  exact same1_l0 l l.length (i := 0) (by omega) hl
def tab (T : Nat → Int) (n : Nat) : List Int := (List.range n).map T
theorem tab_length (T : Nat → Int) (n : Nat) : (tab T n).length = n := by simp [tab]
theorem tab_succ (T : Nat → Int) (n : Nat) : tab T (n + 1) = tab T n ++ [T n] := by simp [tab, List.range_succ]
def word' (x : Int) : Prop := -9223372036854775808 ≤ x ∧ x < 9223372036854775808
theorem getD_word' {l : List Int} (h : ∀ x, x ∈ l → word' x) (i : Nat) : word' (l.getD i 0) := by
  rw [List.getD_eq_getElem?_getD]
  cases c : l[i]? with
  | none => exact ⟨by simp, by simp⟩
  | some v => exact h v (List.mem_of_getElem? c)
end Go.Proofs.YtcgdhpnobgimfaaGreatDoor.Num
end
section
namespace Go.Proofs.YtcgdhpnobgimfaaGreatDoor.Num
open Go.RowKit Go.Proofs.YtcgdhpnobgimfaaGreatDoor.PB Go.Proofs.YtcgdhpnobgimfaaGreatDoorW.PrintWords Go.Proofs.YtcgdhpnobgimfaaGreatDoorW.PrintMore

def smay (c : Int) (s : List Int) : Prop := 0 ≤ c ∧ c ≤ 1048576 ∧ (c = 0 → s.length = 0)
instance (c : Int) (s : List Int) : Decidable (smay c s) := by unfold smay; infer_instance
theorem swa_check_ok (c : Int) (s : List Int) : swa_Check.f c s = some (if smay c s then 0 else 1) := by
  unfold swa_Check.f
  by_cases c1 : c < 0
  · rw [if_pos c1, if_neg (by unfold smay; omega)]
  · rw [if_neg c1]
    by_cases c2 : c > 1048576
    · rw [if_pos c2, if_neg (by unfold smay; omega)]
    · rw [if_neg c2]
      by_cases c3 : c = 0
      · rw [if_pos c3]
        by_cases c4 : (s.length : Int) > 0
        · rw [if_pos c4, if_neg (by unfold smay; omega)]
        · rw [if_neg c4, if_pos (by unfold smay; omega)]
      · rw [if_neg c3, if_pos (by unfold smay; omega)]
theorem ref_smay_ok (c : Int) (s : List Int) : regimenref34_May.f c s = some (decide (smay c s)) := by
  unfold regimenref34_May.f
  by_cases c1 : c ≥ 0
  · rw [if_pos c1]
    by_cases c2 : c ≤ 1048576
    · rw [if_pos c2]
      by_cases c3 : c > 0
      · rw [if_pos c3, decide_eq_true (by unfold smay; omega)]
      · rw [if_neg c3]
        congr 1
        by_cases c4 : s.length = 0
        · rw [decide_eq_true (by unfold smay; omega)]
          simp [c4]
        · rw [decide_eq_false (by unfold smay; omega)]
          simpa using c4
    · rw [if_neg c2, decide_eq_false (by unfold smay; omega)]
  · rw [if_neg c1, decide_eq_false (by unfold smay; omega)]
def meanv (c x : Int) : Int := (sgn (rnd (iabs x) c) (decide (x < 0))).1
theorem mean_rnd {c x : Int} (hx : word' x) (hc : 0 < c) : 0 ≤ rnd (iabs x) c ∧ rnd (iabs x) c ≤ 9223372036854775808 := by
  have a := iabs_nonneg x
  have b := iabs_lt hx
  refine ⟨rnd_nonneg a hc, Int.le_trans (rnd_le hc (q := iabs x) ?_) b⟩
  have := Int.mul_le_mul_of_nonneg_left (show 1 ≤ c by omega) a
  omega
theorem swa_mean_loop (c : Int) (s : List Int) (hs : ∀ x, x ∈ s → word' x) (hc : 0 < c) (hc2 : c ≤ 1048576) (hn : s.length < 1000000) (e : Nat) :
    ∀ (i : Nat), i + e = s.length → Ev (fun k => swa_Mean.l0 k (tab (fun i => meanv c (s.getD i 0)) i) s (s.length : Int) (i : Int) c s) (tab (fun i => meanv c (s.getD i 0)) s.length, 0) := by
  induction e with
  | zero =>
    intro i h
    obtain rfl : i = s.length := by omega
    refine Ev.step (fun k => by rw [swa_Mean.l0]) ?_
    exact evn (by omega) (Ev.now _)
  | succ e ih =>
    intro i h
    have nx := ih (i + 1) (by omega)
    rw [tab_succ] at nx
    have wx := getD_word' hs i
    have ab := iabs_lt wx
    have a0 := iabs_nonneg (s.getD i 0)
    have mr := mean_rnd wx hc
    have ne := half_near_ok (hi := 0) (lo := iabs (s.getD i 0)) (d := c) (by omega) (by omega) a0 (by omega) (by omega) (by omega)
    rw [show iabs (s.getD i 0) + 18446744073709551616 * 0 = iabs (s.getD i 0) from by omega, near_sgn (α := Unit) (by omega), if_pos (by omega)] at ne
    refine Ev.step (fun k => by rw [swa_Mean.l0]) ?_
    refine evp (by omega) ?_
    refine evp (by omega) ?_
    refine evp (by omega) ?_
    rw [rd_nat]
    refine evs (fix_size_ok wx) ?_
    rw [u64_id (x := c) (by omega) (by omega)]
    refine Ev.bind ne ?_
    refine Ev.bind (fix_signed_ok (decide (s.getD i 0 < 0)) mr.1 (by omega)) ?_
    refine evp (by rw [tab_length]; omega) ?_
    rw [w64_succ (by omega)]
    exact nx
theorem swa_mean_ok (c : Int) (s : List Int) (hs : ∀ x, x ∈ s → word' x) (hn : s.length < 1000000) (hm : smay c s) : Ev (fun k => swa_Mean.f k c s) (tab (fun i => meanv c (s.getD i 0)) s.length, 0) := by
  unfold swa_Mean.f
  refine evs (swa_check_ok c s) ?_
  rw [if_pos hm]
  refine evp rfl ?_
  by_cases c0 : c = 0
  · have := hm.2.2 c0
    obtain rfl : s = [] := List.eq_nil_of_length_eq_zero this
    refine Ev.step (fun k => by rw [swa_Mean.l0]) ?_
    exact evn (by simp) (Ev.now _)
  · have h0 := hm.1
    exact swa_mean_loop c s hs (by omega) hm.2.1 hn s.length 0 (by omega)
theorem swa_mean_no (c : Int) (s : List Int) (hm : ¬ smay c s) : Ev (fun k => swa_Mean.f k c s) ([], 1) := by
  unfold swa_Mean.f
  refine evs (swa_check_ok c s) ?_
  rw [if_neg hm]
  exact evn (by decide) (Ev.now _)
theorem ref_mean_loop (c : Int) (s : List Int) (hs : ∀ x, x ∈ s → word' x) (hc : 0 < c) (hc2 : c ≤ 1048576) (hn : s.length < 1000000) (e : Nat) :
    ∀ (i : Nat), i + e = s.length → Ev (fun k => regimenref34_Mean.l0 k (tab (fun i => meanv c (s.getD i 0)) i) (i : Int) c s) (tab (fun i => meanv c (s.getD i 0)) s.length) := by
  induction e with
  | zero =>
    intro i h
    obtain rfl : i = s.length := by omega
    refine Ev.step (fun k => by rw [regimenref34_Mean.l0]) ?_
    exact evn (by omega) (Ev.now _)
  | succ e ih =>
    intro i h
    have nx := ih (i + 1) (by omega)
    rw [tab_succ] at nx
    have wx := getD_word' hs i
    obtain ⟨a, ha, da, va, la⟩ := ref_size_ok wx
    obtain ⟨b, hb, db, vb, lb⟩ := ref_size_ok (x := c) ⟨by omega, by omega⟩
    rw [show iabs c = c from if_neg (by omega)] at vb
    obtain ⟨z, hz, dz, vz, lz⟩ := rounded_ok a b da db (by omega) (by omega) (by omega)
    rw [va, vb] at vz
    have sg := ref_signed_ok z dz (by omega) (decide (s.getD i 0 < 0))
    rw [vz] at sg
    refine Ev.step (fun k => by rw [regimenref34_Mean.l0]) ?_
    refine evp (by omega) ?_
    refine evp (by omega) ?_
    rw [rd_nat]
    refine evs ha ?_
    refine evs hb ?_
    refine Ev.bind hz ?_
    refine Ev.bind sg ?_
    refine evp (by rw [tab_length]; omega) ?_
    rw [w64_succ (by omega)]
    exact nx
end Go.Proofs.YtcgdhpnobgimfaaGreatDoor.Num
end
section
namespace Go.Proofs.YtcgdhpnobgimfaaGreatDoor.Num
open Go.RowKit Go.Proofs.YtcgdhpnobgimfaaGreatDoor.PB Go.Proofs.YtcgdhpnobgimfaaGreatDoorW.PrintWords Go.Proofs.YtcgdhpnobgimfaaGreatDoorW.PrintMore

noncomputable def decS (x : Int) : ByteArray := strOfNums (putl x (Classical.choose (fewest_ex (f := iabs x % 4294967296))))
theorem dput_ok {x : Int} (hx : word' x) : Ev (fun k => dec_Put.f k x) (decS x) := dec_put_ok hx (Classical.choose_spec fewest_ex)
theorem rput_ok {x : Int} (hx : word' x) : Ev (fun k => regimenref05_Put.f k x) (decS x) := ref_put_ok hx (Classical.choose_spec fewest_ex)
theorem decS_size {x : Int} (hx : word' x) : (decS x).size ≤ 100 := by
  unfold decS
  have h := Classical.choose_spec (fewest_ex (f := iabs x % 4294967296))
  generalize Classical.choose (fewest_ex (f := iabs x % 4294967296)) = n at h
  have := (putl_byte x n hx).2
  have := h.1
  rw [strOfNums_size]
  omega
def tailS : List ByteArray → ByteArray
  | [] => ⟨#[]⟩
  | b :: l => (⟨#[32]⟩ : ByteArray) ++ b ++ tailS l
theorem tailS_size {l : List ByteArray} (h : ∀ b, b ∈ l → b.size ≤ 100) : (tailS l).size ≤ 101 * l.length := by
  induction l with
  | nil => exact Nat.le_refl _
  | cons b l ih =>
    have := ih fun c hc => h c (List.mem_cons_of_mem _ hc)
    have := h b List.mem_cons_self
    have e : (⟨#[32]⟩ : ByteArray).size = 1 := rfl
    rw [tailS, size_app, size_app, List.length_cons]
    omega
theorem ba_ext {a b : ByteArray} (h : a.data.toList = b.data.toList) : a = b := by
  cases a
  cases b
  simpa using h
theorem ba_app (a b : ByteArray) : (a ++ b).data.toList = a.data.toList ++ b.data.toList := by simp
theorem app_assoc (a b c : ByteArray) : a ++ b ++ c = a ++ (b ++ c) := ba_ext (by simp only [ba_app, List.append_assoc])
theorem app_nil (a : ByteArray) : a ++ (⟨#[]⟩ : ByteArray) = a := ba_ext (by rw [ba_app]; exact List.append_nil _)
theorem join_tail (b : ByteArray) (l : List ByteArray) : (⟨(Lib.join ((b :: l).map (·.data.toList)) [32]).toArray⟩ : ByteArray) = b ++ tailS l := by
  induction l generalizing b with
  | nil =>
    refine ba_ext ?_
    rw [tailS, app_nil]
    simp [Lib.join]
  | cons c l ih =>
    refine ba_ext ?_
    have := congrArg (fun x : ByteArray => x.data.toList) (ih c)
    simp only [ba_app] at this
    rw [tailS, ba_app, ba_app, ba_app, List.append_assoc, ← this]
    simp [Lib.join, List.intercalate]
theorem line_join {b : ByteArray} {l : List ByteArray} (hb : b.size ≤ 100) (hl : l.length ≤ 1000) (h : ∀ b, b ∈ l → b.size ≤ 100) : output_line.f (b :: l) = some (b ++ tailS l) := by
  have e := join_tail b l
  have z : (Lib.join ((b :: l).map (·.data.toList)) [32]).length = b.size + (tailS l).size := by
    rw [← size_app, ← e]
    exact List.size_toArray.symm
  have := tailS_size h
  unfold output_line.f strings_Join.f
  have e2 : (⟨#[32]⟩ : ByteArray).data.toList = [32] := rfl
  rw [e2, if_pos ⟨by rw [List.length_cons]; omega, by rw [z]; omega⟩, e]
  rfl
theorem getD_get {l : List Int} {i : Nat} (h : i < l.length) : l.getD i 0 = l[i] := by rw [List.getD_eq_getElem?_getD, List.getElem?_eq_getElem h]; rfl
noncomputable def decL (l : List Int) : List ByteArray := l.map decS
theorem dec_loop (l : List Int) (hl : ∀ x, x ∈ l → word' x) (hn : l.length < 1000000) (e : Nat) : ∀ i : Nat, i + e = l.length →
    Ev (fun k => output_decimals.l0 k ((l.take i).map decS) l (l.length : Int) (i : Int)) (decL l) := by
  induction e with
  | zero =>
    intro i h
    refine Ev.step (fun k => by rw [output_decimals.l0]) ?_
    refine evn (by omega) ?_
    rw [List.take_of_length_le (by omega)]
    exact Ev.now _
  | succ e ih =>
    intro i h
    refine Ev.step (fun k => by rw [output_decimals.l0]) ?_
    refine evp (by omega) ?_
    refine evp (by omega) ?_
    refine evp (by omega) ?_
    rw [rd_nat]
    refine Ev.bind (dput_ok (getD_word' hl i)) ?_
    refine evp (by rw [List.length_map, List.length_take]; omega) ?_
    rw [w64_succ (by omega)]
    have := ih (i + 1) (by omega)
    rw [List.take_add_one, List.getElem?_eq_getElem (by omega), List.map_append] at this
    rw [getD_get (by omega)]
    exact this
theorem decs_ok {l : List Int} (hl : ∀ x, x ∈ l → word' x) (hn : l.length < 1000000) : Ev (fun k => output_decimals.f k l) (decL l) := by
  unfold output_decimals.f
  exact dec_loop l hl hn l.length 0 (by omega)
theorem decL_size {l : List Int} (hl : ∀ x, x ∈ l → word' x) : ∀ b, b ∈ decL l → b.size ≤ 100 := by
  intro b hb
  obtain ⟨x, hx, rfl⟩ := List.mem_map.1 hb
  exact decS_size (hl x hx)
theorem decL_len (l : List Int) : (decL l).length = l.length := List.length_map _
theorem tailS_app (a b : List ByteArray) : tailS (a ++ b) = tailS a ++ tailS b := by
  induction a with
  | nil =>
    refine ba_ext ?_
    rw [ba_app]
    rfl
  | cons x a ih => rw [List.cons_append, tailS, tailS, ih, app_assoc, app_assoc, app_assoc]
theorem tail_loop (l : List Int) (hl : ∀ x, x ∈ l → word' x) (hn : l.length < 1000000) (e : Nat) : ∀ i : Nat, i + e = l.length →
    Ev (fun k => regimenref45_tail.l0 k l (tailS (decL (l.take i))) (i : Int)) (tailS (decL l)) := by
  induction e with
  | zero =>
    intro i h
    refine Ev.step (fun k => by rw [regimenref45_tail.l0]) ?_
    refine evn (by omega) ?_
    rw [List.take_of_length_le (by omega)]
    exact Ev.now _
  | succ e ih =>
    intro i h
    have z := tailS_size (decL_size (l := l.take i) fun x hx => hl x (List.mem_of_mem_take hx))
    rw [decL_len, List.length_take] at z
    have z1 := decS_size (getD_word' hl i)
    refine Ev.step (fun k => by rw [regimenref45_tail.l0]) ?_
    refine evp (by omega) ?_
    refine evp (by omega) ?_
    refine evp (by omega) ?_
    rw [rd_nat]
    refine Ev.bind (rput_ok (getD_word' hl i)) ?_
    refine evp (by rw [size_app, show (⟨#[32]⟩ : ByteArray).size = 1 from rfl]; omega) ?_
    rw [w64_succ (by omega)]
    have := ih (i + 1) (by omega)
    rw [List.take_add_one, List.getElem?_eq_getElem (by omega), decL, List.map_append, tailS_app] at this
    rw [getD_get (by omega), app_assoc]
    simp only [Option.toList, List.map_cons, List.map_nil, tailS, app_nil] at this
    exact this
theorem tail_ok {l : List Int} (hl : ∀ x, x ∈ l → word' x) (hn : l.length < 1000000) : Ev (fun k => regimenref45_tail.f k l) (tailS (decL l)) := by
  unfold regimenref45_tail.f
  exact tail_loop l hl hn l.length 0 (by omega)
def wordS (a : Int) : ByteArray := if a = 0 then (⟨#[103, 111, 101, 115]⟩ : ByteArray) else if a = 1 then (⟨#[100, 111, 110, 101]⟩ : ByteArray) else if a = 2 then (⟨#[115, 116, 111, 112, 112, 101, 100]⟩ : ByteArray) else if a = 3 then (⟨#[102, 97, 105, 108, 101, 100]⟩ : ByteArray) else (⟨#[63]⟩ : ByteArray)
theorem oword_ok (a : Int) : output_Word.f a = some (wordS a) := by
  unfold wordS output_Word.f
  repeat' split
  all_goals rfl
theorem rword_ok (a : Int) : regimenref45_Word.f a = some (wordS a) := by
  unfold wordS regimenref45_Word.f
  by_cases h : a < 0
  · rw [if_pos h, if_neg (by omega), if_neg (by omega), if_neg (by omega), if_neg (by omega)]
  · rw [if_neg h]
    by_cases h3 : a > 3
    · rw [if_pos h3, if_neg (by omega), if_neg (by omega), if_neg (by omega), if_neg (by omega)]
    · rw [if_neg h3]
      obtain rfl | rfl | rfl | rfl : a = 0 ∨ a = 1 ∨ a = 2 ∨ a = 3 := by omega
      all_goals rfl
theorem wordS_size (a : Int) : (wordS a).size ≤ 10 := by
  unfold wordS
  repeat' split
  all_goals decide
theorem texts_loop (l : List ByteArray) (hn : l.length < 1000000) (e : Nat) : ∀ i : Nat, i + e = l.length → Ev (fun k => regimenref01_Texts.l0 k l l (i : Int)) true := by
  induction e with
  | zero =>
    intro i h
    refine Ev.step (fun k => by rw [regimenref01_Texts.l0]) ?_
    refine evn (by omega) ?_
    exact Ev.now _
  | succ e ih =>
    intro i h
    refine Ev.step (fun k => by rw [regimenref01_Texts.l0]) ?_
    refine evp (by omega) ?_
    refine evp (by omega) ?_
    refine evp (by omega) ?_
    refine evp rfl ?_
    rw [w64_succ (by omega)]
    exact ih (i + 1) (by omega)
theorem texts_ok (l : List ByteArray) (hn : l.length < 1000000) : Ev (fun k => regimenref01_Texts.f k l l) true := by
  unfold regimenref01_Texts.f
  refine evp rfl ?_
  exact texts_loop l hn l.length 0 (by omega)
end Go.Proofs.YtcgdhpnobgimfaaGreatDoor.Num
end
section
namespace Go.Proofs.YtcgdhpnobgimfaaGreatDoor.Num
open Go.RowKit Go.Proofs.YtcgdhpnobgimfaaGreatDoor.PB Go.Proofs.YtcgdhpnobgimfaaGreatDoorW.PrintWords Go.Proofs.YtcgdhpnobgimfaaGreatDoorW.PrintMore

def pcs (c : Int) : List Int → List (List Int)
  | [] => [[]]
  | x :: l => if x = c then [] :: pcs c l else (x :: (pcs c l).headD []) :: (pcs c l).tail
theorem pcs_eq (c x : Int) (l : List Int) : pcs c (x :: l) = if x = c then [] :: pcs c l else (x :: (pcs c l).headD []) :: (pcs c l).tail := rfl
def jn (c : Int) : List (List Int) → List Int
  | [] => []
  | [w] => w
  | w :: v :: r => w ++ c :: jn c (v :: r)
theorem pcs_ne (c : Int) (l : List Int) : pcs c l ≠ [] := by
  cases l with
  | nil => simp [pcs]
  | cons x l => unfold pcs; split <;> simp
theorem pcs_ht (c : Int) (l : List Int) : pcs c l = (pcs c l).headD [] :: (pcs c l).tail := by
  cases h : pcs c l with
  | nil => exact absurd h (pcs_ne c l)
  | cons w r => rfl
theorem jn_cons (c : Int) (w : List Int) {r : List (List Int)} (h : r ≠ []) : jn c (w :: r) = w ++ c :: jn c r := by
  cases r with
  | nil => exact absurd rfl h
  | cons v r => rfl
theorem jn_push (c x : Int) (w : List Int) (r : List (List Int)) : jn c ((x :: w) :: r) = x :: jn c (w :: r) := by
  cases r <;> rfl
theorem pcs_jn (c : Int) : ∀ l : List Int, jn c (pcs c l) = l
  | [] => rfl
  | x :: l => by
    have ih := pcs_jn c l
    unfold pcs
    split
    · rename_i hx
      rw [jn_cons c [] (pcs_ne c l), ih, hx]
      rfl
    · rw [jn_push, ← pcs_ht, ih]
theorem pcs_none {c : Int} : ∀ {w : List Int}, c ∉ w → pcs c w = [w]
  | [], _ => rfl
  | x :: w, h => by
    rw [List.mem_cons, not_or] at h
    unfold pcs
    rw [if_neg (fun q => h.1 q.symm), pcs_none h.2]
    rfl
theorem pcs_cons {c : Int} {l : List Int} : ∀ {w : List Int}, c ∉ w → pcs c (w ++ c :: l) = w :: pcs c l
  | [], _ => by
    show pcs c (c :: l) = _
    rw [pcs_eq, if_pos rfl]
  | x :: w, h => by
    rw [List.mem_cons, not_or] at h
    show pcs c (x :: (w ++ c :: l)) = _
    rw [pcs_eq, if_neg (fun q => h.1 q.symm), pcs_cons h.2]
    rfl
theorem jn_pcs {c : Int} : ∀ {ws : List (List Int)}, ws ≠ [] → (∀ w ∈ ws, c ∉ w) → pcs c (jn c ws) = ws
  | [], h, _ => absurd rfl h
  | [w], _, h => pcs_none (h w List.mem_cons_self)
  | w :: v :: r, _, h => by
    rw [jn_cons c w (by simp), pcs_cons (h w List.mem_cons_self), jn_pcs (by simp) fun x hx => h x (List.mem_cons_of_mem _ hx)]
theorem pcs_bef {c : Int} {l : List Int} (h : c ∈ l) : pcs c l = bef c l :: pcs c (l.drop ((bef c l).length + 1)) := by
  have := bef_some h
  conv => lhs; rw [this.1]
  rw [pcs_cons this.2]
theorem index_one (c : UInt8) : ∀ l : List UInt8, Lib.index l [c] = Lib.indexByte l c
  | [] => rfl
  | b :: l => by
    rw [Lib.index, Lib.indexByte, index_one c l]
    by_cases h : b = c
    · subst h
      rw [if_pos (by simp [List.isPrefixOf]), if_pos (by simp)]
    · rw [if_neg (by simp [List.isPrefixOf]; exact fun q => h q.symm)]
      have hb : ¬ (b == c) = true := by simpa using h
      rw [if_neg hb]
def partsB (c : UInt8) (s : ByteArray) : List ByteArray := (pcs (c.toNat : Int) (numsOf s)).map strOfNums
theorem split_loop (c : UInt8) : ∀ (k : Nat) (s : ByteArray), Lib.countB s ⟨#[c]⟩ = k → Lib.splitB ⟨#[c]⟩ 0 k s = partsB c s
  | k, s, hk => by
    have hz : (⟨#[c]⟩ : ByteArray).size = 1 := rfl
    have hix : Lib.indexB s ⟨#[c]⟩ = if (c.toNat : Int) ∈ numsOf s then ((bef (c.toNat : Int) (numsOf s)).length : Int) else -1 := by
      rw [← index_nums]
      exact index_one c _
    unfold partsB
    by_cases h : (c.toNat : Int) ∈ numsOf s
    · rw [if_pos h] at hix
      have hc := Lib.countB_hit s ⟨#[c]⟩ _ (by rw [hz]; exact Nat.le_refl _) hix
      rw [hz] at hc
      cases k with
      | zero => omega
      | succ k =>
        rw [Lib.splitB_hit ⟨#[c]⟩ 0 k s _ hix, hz, split_loop c k _ (by omega), pcs_bef h, List.map_cons]
        unfold partsB
        rw [nums_drop]
        congr 1
        rw [Nat.add_zero, ← str_nums (s.extract 0 _), nums_take, bef_take h]
    · rw [if_neg h] at hix
      rw [Lib.splitB_miss ⟨#[c]⟩ 0 k s hix, pcs_none h]
      simp only [List.map_cons, List.map_nil, str_nums]
theorem parts_size {c : UInt8} {s w : ByteArray} (h : w ∈ partsB c s) : w.size ≤ s.size := by
  obtain ⟨p, hp, rfl⟩ := List.mem_map.1 h
  have key : ∀ (l : List Int), ∀ p ∈ pcs (c.toNat : Int) l, p.length ≤ l.length := by
    intro l
    induction l with
    | nil => intro p hp; rw [pcs, List.mem_singleton] at hp; rw [hp]; exact Nat.le_refl _
    | cons x l ih =>
      intro p hp
      have ih2 := ih
      rw [pcs_ht] at ih2
      unfold pcs at hp
      split at hp
      · rcases List.mem_cons.1 hp with rfl | hp
        · simp
        · have := ih p hp
          rw [List.length_cons]
          omega
      · rcases List.mem_cons.1 hp with rfl | hp
        · have := ih2 _ List.mem_cons_self
          rw [List.length_cons, List.length_cons]
          omega
        · have := ih2 p (List.mem_cons_of_mem _ hp)
          rw [List.length_cons]
          omega
  have := key _ p hp
  rw [nums_len] at this
  have e : (strOfNums p).size = p.length := by
    unfold strOfNums
    show (Array.size _) = _
    simp
  omega
theorem parts_len {c : UInt8} {s : ByteArray} : (partsB c s).length ≤ s.size + 1 := by
  unfold partsB
  rw [List.length_map, ← nums_len]
  generalize numsOf s = l
  induction l with
  | nil => simp [pcs]
  | cons x l ih =>
    unfold pcs
    split
    · simp only [List.length_cons] at ih ⊢
      omega
    · rw [pcs_ht] at ih
      simp only [List.length_cons] at ih ⊢
      omega
theorem split_ok (k : Nat) (s : ByteArray) (hs : s.size < 4294967281) (c : UInt8) : strings_Split.f k s ⟨#[c]⟩ = some (partsB c s) := by
  unfold strings_Split.f
  rw [if_pos ⟨hs, Nat.le_refl _⟩, split_loop c _ s rfl]
end Go.Proofs.YtcgdhpnobgimfaaGreatDoor.Num
end
section
namespace Go.Proofs.YtcgdhpnobgimfaaGreatDoor.Num
open Go.RowKit Go.Proofs.YtcgdhpnobgimfaaGreatDoor.PB Go.Proofs.YtcgdhpnobgimfaaGreatDoorW.PrintWords Go.Proofs.YtcgdhpnobgimfaaGreatDoorW.PrintMore

abbrev EvT := Int × Int × Int × Unit
abbrev OutT := Int × Int × (List Int) × (List Bool) × (List EvT) × Int × Unit
theorem tellv_100 {n : Int} (h : word' n) : (tellv n).size ≤ 100 := Nat.le_trans (tellv_size h) (by decide)
theorem sz_one : (⟨#[32]⟩ : ByteArray).size = 1 := rfl
theorem sz_two : (⟨#[32, 32]⟩ : ByteArray).size = 2 := rfl
noncomputable def grpW (o : OutT) (i : Nat) : List ByteArray := decL ((o.2.2.1.take (3 * i + 3)).drop (3 * i)) ++ (if i < o.2.2.2.1.length ∧ o.2.2.2.1.getD i false = true then [(⟨#[102, 114, 111, 122, 101, 110]⟩ : ByteArray)] else [])
noncomputable def grpS (o : OutT) (i : Nat) : ByteArray := (⟨#[32, 32, 103, 114, 111, 117, 112]⟩ : ByteArray) ++ tailS (tellv (i : Int) :: grpW o i)
def evS (e : EvT) : ByteArray := (⟨#[32, 32]⟩ : ByteArray) ++ lineV e.2.1 e.2.2.1
def headS (o : OutT) : ByteArray := (⟨#[115, 116, 101, 112]⟩ : ByteArray) ++ tailS [tellv o.1, (⟨#[112, 104, 97, 115, 101]⟩ : ByteArray), tellv o.2.1, wordS o.2.2.2.2.2.1]
structure OutOk (o : OutT) : Prop where
  step : word' o.1
  phase : word' o.2.1
  vals : ∀ x, x ∈ o.2.2.1 → word' x
  nv : o.2.2.1.length ≤ 600
  nf : o.2.2.2.1.length ≤ 600
  ne : o.2.2.2.2.1.length ≤ 600
  evs : ∀ e, e ∈ o.2.2.2.2.1 → word' e.2.2.1
noncomputable def stepL (o : OutT) : List ByteArray := [headS o] ++ (List.range' 0 (o.2.2.1.length / 3)).map (grpS o) ++ (o.2.2.2.2.1.drop 0).map evS
section
variable {o : OutT} (ok : OutOk o)
include ok
theorem grp_vals {i : Nat} : ∀ x, x ∈ (o.2.2.1.take (3 * i + 3)).drop (3 * i) → word' x := fun x hx => ok.vals x (List.mem_of_mem_take (List.mem_of_mem_drop hx))
theorem grp_len {i : Nat} : ((o.2.2.1.take (3 * i + 3)).drop (3 * i)).length ≤ 3 := by
  rw [List.length_drop, List.length_take]
  have := ok.nv
  omega
theorem group_ok {i : Nat} (h : 3 * i + 3 ≤ o.2.2.1.length) : Ev (fun k => output_group_s.f k o (i : Int)) (grpS o i) := by
  have nv := ok.nv
  have g := grp_len ok (i := i)
  have gv := grp_vals ok (i := i)
  unfold output_group_s.f
  refine Ev.bind (tell_ok (by omega)) ?_
  have e1 : wrap64 ((3 : Int) * (i : Int)) = ((3 * i : Nat) : Int) := by rw [w64_id (by omega) (by omega)]; omega
  have e2 : wrap64 ((3 : Int) * (wrap64 ((i : Int) + (1 : Int)))) = ((3 * i + 3 : Nat) : Int) := by rw [w64_id (x := (i : Int) + 1) (by omega) (by omega), w64_id (by omega) (by omega)]; omega
  rw [e1, e2]
  refine evp (by omega) ?_
  refine evp (by omega) ?_
  refine evp (by omega) ?_
  have dk := decs_ok gv (by omega)
  refine Ev.bind dk ?_
  refine evp (by rw [decL_len]; simp only [List.length_cons, List.length_nil, Int.toNat_natCast]; omega) ?_
  have fin : ∀ l : List ByteArray, l.length ≤ 100 → (∀ b, b ∈ l → b.size ≤ 100) → Ev (fun k => output_group_s.j4 k ((⟨#[32, 32, 103, 114, 111, 117, 112]⟩ : ByteArray) :: l)) ((⟨#[32, 32, 103, 114, 111, 117, 112]⟩ : ByteArray) ++ tailS l) := by
    intro l hl hb
    refine Ev.step (fun k => by rw [output_group_s.j4]) ?_
    refine evs (line_join (by decide) (by omega) hb) ?_
    exact Ev.now _
  have hb : ∀ b, b ∈ tellv (i : Int) :: grpW o i → b.size ≤ 100 := by
    intro b h
    rcases List.mem_cons.1 h with rfl | h
    · exact tellv_100 (by unfold word'; omega)
    · unfold grpW at h
      rcases List.mem_append.1 h with h | h
      · exact decL_size gv b h
      · split at h
        · rw [List.mem_singleton.1 h]
          decide
        · cases h
  have hl : (tellv (i : Int) :: grpW o i).length ≤ 100 := by
    unfold grpW
    rw [List.length_cons, List.length_append, decL_len]
    split <;> simp only [List.length_cons, List.length_nil] <;> omega
  have key := fin _ hl hb
  unfold grpS
  unfold grpW at key ⊢
  by_cases c : i < o.2.2.2.1.length
  · refine evp (by omega) ?_
    refine evp (by omega) ?_
    refine evp (by omega) ?_
    by_cases c2 : o.2.2.2.1.getD i false = true
    · rw [if_pos ⟨c, c2⟩] at key ⊢
      refine evp c2 ?_
      refine evp (by simp only [List.length_append, List.length_cons, List.length_nil, decL_len, Int.toNat_natCast]; omega) ?_
      exact key
    · rw [if_neg (fun h => c2 h.2)] at key ⊢
      refine evn c2 ?_
      rw [List.append_nil] at key ⊢
      exact key
  · rw [if_neg (fun h => c h.1)] at key ⊢
    refine evn (by omega) ?_
    rw [List.append_nil] at key ⊢
    exact key
end
end Go.Proofs.YtcgdhpnobgimfaaGreatDoor.Num
end
section
namespace Go.Proofs.YtcgdhpnobgimfaaGreatDoor.Num
open Go.RowKit Go.Proofs.YtcgdhpnobgimfaaGreatDoor.PB Go.Proofs.YtcgdhpnobgimfaaGreatDoorW.PrintWords Go.Proofs.YtcgdhpnobgimfaaGreatDoorW.PrintMore

theorem nums_ext {a b : ByteArray} (h : numsOf a = numsOf b) : a = b := nums_inj h
def afterP (b a : ByteArray) : Option ByteArray := if numsOf (a.extract 0 b.size) = numsOf b then some (a.extract b.size a.size) else none
def beforeS (b a : ByteArray) : Option ByteArray := if b.size ≤ a.size ∧ numsOf (a.extract (a.size - b.size) a.size) = numsOf b then some (a.extract 0 (a.size - b.size)) else none
theorem after_app (b r : ByteArray) : afterP b (b ++ r) = some r := by
  unfold afterP
  have hb := nums_len b
  rw [if_pos (by rw [nums_take, nums_app, ← hb, List.take_left])]
  congr 1
  refine nums_ext ?_
  rw [nums_drop, nums_app, ← hb, List.drop_left]
theorem after_some {a b r : ByteArray} (h : afterP b a = some r) : a = b ++ r := by
  unfold afterP at h
  split at h
  · rename_i c
    cases h
    refine nums_ext ?_
    rw [nums_app, ← c, nums_take, nums_drop, List.take_append_drop]
  · cases h
theorem before_app (r b : ByteArray) : beforeS b (r ++ b) = some r := by
  unfold beforeS
  have hb := nums_len b
  have hr := nums_len r
  have e : (r ++ b).size - b.size = r.size := by rw [size_app]; omega
  rw [if_pos ⟨by rw [size_app]; omega, by rw [e, nums_drop, nums_app, ← hr, List.drop_left]⟩, e]
  congr 1
  refine nums_ext ?_
  rw [nums_take, nums_app, ← hr, List.take_left]
theorem before_some {a b r : ByteArray} (h : beforeS b a = some r) : a = r ++ b := by
  unfold beforeS at h
  split at h
  · rename_i c
    cases h
    refine nums_ext ?_
    rw [nums_app, ← c.2, nums_take, nums_drop, List.take_append_drop]
  · cases h
theorem cutp_ok (a b : ByteArray) : strings_CutPrefix.f a b = some (match afterP b a with | some r => (r, true) | none => (a, false)) := by
  unfold strings_CutPrefix.f stringslite_CutPrefix.f stringslite_HasPrefix.f afterP
  by_cases h : b.size ≤ a.size
  · rw [if_pos (by omega), if_pos (by omega), if_pos (by omega), Option.bind_some]
    by_cases d : numsOf (a.extract 0 b.size) = numsOf b
    · have e : ((a.extract 0 (((b.size : Nat) : Int)).toNat).toList == b.toList) = true := by
        rw [beq_iff_eq, tl_eq]
        exact nums_ext d
      rw [e, if_pos d]
      show (Option.bind (if (true = true) then _ else _) _) = _
      rw [if_pos rfl, if_pos (by omega), if_pos (by omega)]
      rfl
    · have e : ((a.extract 0 (((b.size : Nat) : Int)).toNat).toList == b.toList) = false := by
        rw [beq_eq_false_iff_ne]
        exact fun q => d (congrArg numsOf ((tl_eq _ _).1 q))
      rw [e, if_neg d]
      rfl
  · have e : ¬ numsOf (a.extract 0 b.size) = numsOf b := fun q => by
      have := congrArg List.length q
      rw [nums_take, List.length_take, nums_len, nums_len] at this
      omega
    rw [if_neg e, if_neg (by omega)]
    rfl
theorem cuts_ok (a b : ByteArray) (ha : a.size < 1000000000) (hb : b.size < 1000000000) : strings_CutSuffix.f a b = some (match beforeS b a with | some r => (r, true) | none => (a, false)) := by
  unfold strings_CutSuffix.f stringslite_CutSuffix.f stringslite_HasSuffix.f beforeS
  by_cases h : b.size ≤ a.size
  · have w : wrap64 ((a.size : Int) - (b.size : Int)) = ((a.size - b.size : Nat) : Int) := by rw [w64_id (by omega) (by omega)]; omega
    rw [w]
    rw [if_pos (by omega), if_pos (by omega), if_pos (by omega), Option.bind_some]
    by_cases d : numsOf (a.extract (a.size - b.size) a.size) = numsOf b
    · have e : ((a.extract (((a.size - b.size : Nat) : Int)).toNat a.size).toList == b.toList) = true := by
        rw [beq_iff_eq, tl_eq]
        exact nums_ext d
      rw [e, if_pos (show true = true from rfl), if_pos (by omega), if_pos (by omega), if_pos (show b.size ≤ a.size ∧ numsOf (a.extract (a.size - b.size) a.size) = numsOf b from ⟨h, d⟩)]
      rfl
    · have e : ((a.extract (((a.size - b.size : Nat) : Int)).toNat a.size).toList == b.toList) = false := by
        rw [beq_eq_false_iff_ne]
        exact fun q => d (congrArg numsOf ((tl_eq _ _).1 q))
      rw [e, if_neg (show ¬ (b.size ≤ a.size ∧ numsOf (a.extract (a.size - b.size) a.size) = numsOf b) from fun q => d q.2)]
      rfl
  · rw [if_neg (show ¬ (b.size ≤ a.size ∧ numsOf (a.extract (a.size - b.size) a.size) = numsOf b) from fun q => h q.1), if_neg (by omega)]
    rfl
theorem join_words (b : ByteArray) (l : List ByteArray) : numsOf (b ++ tailS l) = jn 32 ((b :: l).map numsOf) := by
  induction l generalizing b with
  | nil => rw [tailS, app_nil]; rfl
  | cons c l ih =>
    rw [tailS, app_assoc, nums_app, nums_app, ih c]
    rfl
theorem words_back (s : ByteArray) {b : ByteArray} {l : List ByteArray} (h : partsB 32 s = b :: l) : s = b ++ tailS l := by
  refine nums_ext ?_
  rw [join_words, ← h]
  unfold partsB
  rw [List.map_map]
  have e : (pcs ((32 : UInt8).toNat : Int) (numsOf s)).map (numsOf ∘ strOfNums) = pcs 32 (numsOf s) := by
    have hf : ∀ p ∈ pcs 32 (numsOf s), (numsOf ∘ strOfNums) p = p := fun p hp => nums_str fun x hx => nums_byte s x (by
      have := pcs_jn 32 (numsOf s)
      have key : ∀ (ws : List (List Int)), p ∈ ws → x ∈ p → x ∈ jn 32 ws := by
        intro ws
        induction ws with
        | nil => intro hq; cases hq
        | cons w r ih =>
          intro hq hx
          cases r with
          | nil =>
            rw [List.mem_singleton] at hq
            rw [← hq]
            exact hx
          | cons v r =>
            rw [jn_cons 32 w (by simp), List.mem_append]
            rcases List.mem_cons.1 hq with rfl | hq
            · exact .inl hx
            · exact .inr (List.mem_cons_of_mem _ (ih hq hx))
      rw [← this]
      exact key _ hp hx)
    rw [show ((32 : UInt8).toNat : Int) = 32 from rfl]
    rw [List.map_congr_left hf]
    simp
  rw [e, pcs_jn]
theorem words_of (b : ByteArray) (l : List ByteArray) (h : ∀ w ∈ b :: l, (32 : Int) ∉ numsOf w) : partsB 32 (b ++ tailS l) = b :: l := by
  unfold partsB
  rw [join_words, show ((32 : UInt8).toNat : Int) = 32 from rfl, jn_pcs (by simp) (fun w hw => by
    obtain ⟨v, hv, rfl⟩ := List.mem_map.1 hw
    exact h v hv), List.map_map]
  have : (strOfNums ∘ numsOf) = id := funext str_nums
  rw [this, List.map_id]
theorem decv_word {l : List Int} (h : (decv l).2 = 0) : word' (decv l).1 := by
  unfold decv at h ⊢
  split at h
  · rename_i hv
    rw [if_pos hv]
    split at h
    · cases h
    · rename_i h1
      rw [if_neg h1]
      split at h
      · rename_i hs
        rw [if_pos hs]
        unfold sgn at hs ⊢
        have h0 : 0 ≤ mag (body l) := by
          rw [mag_eq hv]
          have := (mag_frac hv).1
          have := (valf_bd (valid_dig hv).1).1
          omega
        unfold word'
        split
        · rename_i q
          rw [if_pos q] at hs
          split at hs
          · rename_i q2
            rw [if_pos q2]
            constructor <;> simp only <;> omega
          · cases hs
        · rename_i q
          rw [if_neg q] at hs
          split at hs
          · rename_i q2
            rw [if_pos q2]
            constructor <;> simp only <;> omega
          · cases hs
      · cases h
  · cases h
noncomputable def ownv (w : ByteArray) : Option Int := if (decv (numsOf w)).2 = 0 ∧ decS (decv (numsOf w)).1 = w then some (decv (numsOf w)).1 else none
noncomputable def ownL : List ByteArray → Option (List Int)
  | [] => some []
  | w :: r => match ownv w, ownL r with
    | some n, some l => some (n :: l)
    | _, _ => none
theorem ownv_some {w : ByteArray} {n : Int} (h : ownv w = some n) : decS n = w ∧ word' n := by
  unfold ownv at h
  split at h
  · rename_i c
    cases h
    exact ⟨c.2, decv_word c.1⟩
  · cases h
theorem decv_decS {n : Int} (hn : word' n) : decv (numsOf (decS n)) = (n, 0) := by
  unfold decS
  have h := Classical.choose_spec (fewest_ex (f := iabs n % 4294967296))
  rw [(putl_byte n _ hn).1]
  exact (putl_back hn h).1
theorem ownv_decS {n : Int} (hn : word' n) : ownv (decS n) = some n := by
  unfold ownv
  rw [decv_decS hn, if_pos ⟨rfl, rfl⟩]
theorem ownL_some {W : List ByteArray} : ∀ {l : List Int}, ownL W = some l → W = decL l ∧ ∀ x ∈ l, word' x := by
  induction W with
  | nil => intro l h; cases h; exact ⟨rfl, fun x hx => by cases hx⟩
  | cons w W ih =>
    intro l h
    unfold ownL at h
    split at h
    · rename_i n m h1 h2
      cases h
      obtain ⟨e1, e2⟩ := ih h2
      obtain ⟨e3, e4⟩ := ownv_some h1
      refine ⟨by rw [e1, ← e3]; rfl, fun x hx => ?_⟩
      rcases List.mem_cons.1 hx with rfl | hx
      · exact e4
      · exact e2 x hx
    · cases h
theorem ownL_decL {l : List Int} (h : ∀ x ∈ l, word' x) : ownL (decL l) = some l := by
  induction l with
  | nil => rfl
  | cons x l ih =>
    rw [show decL (x :: l) = decS x :: decL l from rfl, ownL, ownv_decS (h x List.mem_cons_self), ih fun y hy => h y (List.mem_cons_of_mem _ hy)]
theorem value_ok (w : ByteArray) (hw : w.size < 1000000) : ∃ n, Ev (fun k => trace_value.f k w) (n, (ownv w).isSome) ∧ ∀ m, ownv w = some m → m = n := by
  unfold trace_value.f
  by_cases c : (decv (numsOf w)).2 = 0
  · refine ⟨(decv (numsOf w)).1, ?_, fun m hm => ?_⟩
    · refine Ev.bind (dec_get_ok w hw) ?_
      refine evp c ?_
      refine Ev.bind (dput_ok (decv_word c)) ?_
      have e : ((decS (decv (numsOf w)).1).toList == w.toList) = (ownv w).isSome := by
        unfold ownv
        by_cases d : decS (decv (numsOf w)).1 = w
        · rw [if_pos ⟨c, d⟩, d]
          exact beq_self_eq_true _
        · rw [if_neg (fun q => d q.2)]
          show _ = false
          rw [beq_eq_false_iff_ne]
          exact fun q => d ((tl_eq _ _).1 q)
      rw [e]
      exact Ev.now _
    · unfold ownv at hm
      split at hm
      · cases hm; rfl
      · cases hm
  · refine ⟨(decv (numsOf w)).1, ?_, fun m hm => ?_⟩
    · refine Ev.bind (dec_get_ok w hw) ?_
      refine evn c ?_
      have e : (ownv w).isSome = false := by unfold ownv; rw [if_neg (fun q => c q.1)]; rfl
      rw [e]
      exact Ev.now _
    · unfold ownv at hm
      rw [if_neg (fun q => c q.1)] at hm
      cases hm
def frzB : ByteArray := ⟨#[32, 102, 114, 111, 122, 101, 110]⟩
def gpre (i : Int) : ByteArray := (⟨#[32, 32, 103, 114, 111, 117, 112, 32]⟩ : ByteArray) ++ tellv i ++ (⟨#[32]⟩ : ByteArray)
noncomputable def bodyG (r : ByteArray) : ByteArray × Bool := match beforeS frzB r with
  | some b => (b, true)
  | none => (r, false)
noncomputable def groupP (s : ByteArray) (i : Int) : Option (List Int × Bool) := match afterP (gpre i) s with
  | some r => match ownL (partsB 32 (bodyG r).1) with
    | some l => if l.length = 3 then some (l, (bodyG r).2) else none
    | none => none
  | none => none
theorem group_l6 (fr : Bool) (W : List ByteArray) (hW : ∀ w ∈ W, w.size < 1000000) (hl : W.length < 1000000) (d : Nat) : ∀ (i : Nat) (acc : List Int), i + d = W.length → acc.length + d ≤ 1000000 →
    ∃ r, Ev (fun k => trace_group.l6 k acc fr W (W.length : Int) (i : Int)) r ∧ match ownL (W.drop i) with
      | some l => r = (acc ++ l, fr, decide ((acc ++ l).length = 3), ())
      | none => r.2.2.1 = false := by
  induction d with
  | zero =>
    intro i acc h ha
    refine ⟨(acc, fr, xor false (decide ((acc.length : Int) = 3)), ()), ?_, ?_⟩
    · refine Ev.step (fun k => by rw [trace_group.l6]) ?_
      refine evn (by omega) ?_
      exact Ev.now _
    · rw [List.drop_eq_nil_of_le (by omega)]
      show _ = _
      rw [List.append_nil, Bool.false_xor]
      congr 2
      have : ((acc.length : Int) = 3) = (acc.length = 3) := propext ⟨fun h => by omega, fun h => by omega⟩
      simp only [this]
  | succ d ih =>
    intro i acc h ha
    have hi : i < W.length := by omega
    have hd : W.drop i = W[i] :: W.drop (i + 1) := List.drop_eq_getElem_cons hi
    have hg : W.getD i (⟨#[]⟩ : ByteArray) = W[i] := by rw [List.getD_eq_getElem?_getD, List.getElem?_eq_getElem hi]; rfl
    obtain ⟨n, hv, hn⟩ := value_ok W[i] (hW _ (List.getElem_mem hi))
    have head : ∀ {r}, Ev (fun k => if (!(ownv W[i]).isSome) = true then some (([] : List Int), false, false, ()) else if (acc.length + [n].length) * 8 ≤ 140737488355328 then trace_group.l6 k (acc ++ [n]) fr W (W.length : Int) (wrap64 ((i : Int) + 1)) else none) r → Ev (fun k => trace_group.l6 k acc fr W (W.length : Int) (i : Int)) r := by
      intro r hr
      refine Ev.step (fun k => by rw [trace_group.l6]) ?_
      refine evp (by omega) ?_
      refine evp (by omega) ?_
      refine evp (by omega) ?_
      rw [show ((i : Int)).toNat = i from rfl, hg]
      exact Ev.bind hv hr
    rw [hd, ownL]
    cases ho : ownv W[i] with
    | none =>
      refine ⟨([], false, false, ()), head ?_, rfl⟩
      rw [ho]
      refine evp rfl ?_
      exact Ev.now _
    | some m =>
      obtain rfl := hn m ho
      obtain ⟨r, h1, h2⟩ := ih (i + 1) (acc ++ [m]) (by omega) (by simp only [List.length_append, List.length_cons, List.length_nil]; omega)
      refine ⟨r, head ?_, ?_⟩
      · rw [ho]
        refine evn (by simp) ?_
        refine evp (by simp only [List.length_cons, List.length_nil]; omega) ?_
        rw [w64_succ (by omega)]
        exact h1
      · cases hr : ownL (W.drop (i + 1)) with
        | none => rw [hr] at h2; exact h2
        | some l =>
          rw [hr] at h2
          simp only at h2 ⊢
          rw [h2, List.append_assoc]
          rfl
end Go.Proofs.YtcgdhpnobgimfaaGreatDoor.Num
end
section
namespace Go.Proofs.YtcgdhpnobgimfaaGreatDoor.Num
open Go.RowKit Go.Proofs.YtcgdhpnobgimfaaGreatDoor.PB Go.Proofs.YtcgdhpnobgimfaaGreatDoorW.PrintWords Go.Proofs.YtcgdhpnobgimfaaGreatDoorW.PrintMore

theorem drop_cons {α : Type} {l : List α} {i : Nat} (d : α) (h : i < l.length) : l.drop i = l.getD i d :: l.drop (i + 1) := by
  rw [List.drop_eq_getElem_cons h, List.getD_eq_getElem?_getD, List.getElem?_eq_getElem h]
  rfl
theorem mem_getD {α : Type} {l : List α} {i : Nat} (d : α) (h : i < l.length) : l.getD i d ∈ l := by
  rw [List.getD_eq_getElem?_getD, List.getElem?_eq_getElem h]
  exact List.getElem_mem h
theorem step_l8 (es : List EvT) (he : ∀ e, e ∈ es → word' e.2.2.1) (hn : es.length ≤ 600) (d : Nat) : ∀ (i : Nat) (acc : List ByteArray), i + d = es.length → acc.length + d ≤ 100000 →
    Ev (fun k => output_Step_s.l8 k acc es (es.length : Int) (i : Int)) (acc ++ (es.drop i).map evS) := by
  induction d with
  | zero =>
    intro i acc h ha
    refine Ev.step (fun k => by rw [output_Step_s.l8]) ?_
    refine evn (by omega) ?_
    rw [List.drop_eq_nil_of_le (by omega), List.map_nil, List.append_nil]
    exact Ev.now _
  | succ d ih =>
    intro i acc h ha
    have hw := he _ (mem_getD (0, 0, 0, ()) (i := i) (by omega : i < es.length))
    have z := line_size (k := (es.getD i (0, 0, 0, ())).2.1) hw
    refine Ev.step (fun k => by rw [output_Step_s.l8]) ?_
    refine evp (by omega) ?_
    refine evp (by omega) ?_
    refine evp (by omega) ?_
    refine Ev.bind (line_ok _ _ hw) ?_
    refine evp (by rw [sz_two]; simp only [Int.toNat_natCast]; omega) ?_
    refine evp (by simp only [List.length_cons, List.length_nil]; omega) ?_
    rw [w64_succ (by omega)]
    have := ih (i + 1) (acc ++ [evS (es.getD i (0, 0, 0, ()))]) (by omega) (by simp only [List.length_append, List.length_cons, List.length_nil]; omega)
    rw [List.append_assoc] at this
    rw [drop_cons (0, 0, 0, ()) (by omega : i < es.length), List.map_cons]
    exact this
section
variable {o : OutT} (ok : OutOk o)
include ok
theorem step_l3 (n : Nat) (hn : 3 * n ≤ o.2.2.1.length) (d : Nat) : ∀ (i : Nat) (acc : List ByteArray), i + d = n → acc.length + d ≤ 10000 →
    Ev (fun k => output_Step_s.l3 k acc (n : Int) (i : Int) o) (acc ++ (List.range' i d).map (grpS o) ++ (o.2.2.2.2.1.drop 0).map evS) := by
  have nv := ok.nv
  have ne := ok.ne
  induction d with
  | zero =>
    intro i acc h ha
    refine Ev.step (fun k => by rw [output_Step_s.l3]) ?_
    refine evn (by omega) ?_
    rw [List.range'_zero, List.map_nil, List.append_nil]
    exact step_l8 _ ok.evs ne o.2.2.2.2.1.length 0 acc (by omega) (by omega)
  | succ d ih =>
    intro i acc h ha
    refine Ev.step (fun k => by rw [output_Step_s.l3]) ?_
    refine evp (by omega) ?_
    refine Ev.bind (group_ok ok (by omega)) ?_
    refine evp (by simp only [List.length_cons, List.length_nil]; omega) ?_
    rw [w64_succ (by omega)]
    have := ih (i + 1) (acc ++ [grpS o i]) (by omega) (by simp only [List.length_append, List.length_cons, List.length_nil]; omega)
    rw [List.range'_succ, List.map_cons]
    simp only [List.append_assoc, List.cons_append, List.nil_append] at this ⊢
    exact this
theorem step_ok : Ev (fun k => output_Step_s.f k o) (stepL o) := by
  have nv := ok.nv
  unfold output_Step_s.f
  refine Ev.bind (tell_ok ok.step) ?_
  refine Ev.bind (tell_ok ok.phase) ?_
  refine evs (oword_ok _) ?_
  have hb : ∀ b, b ∈ [tellv o.1, (⟨#[112, 104, 97, 115, 101]⟩ : ByteArray), tellv o.2.1, wordS o.2.2.2.2.2.1] → b.size ≤ 100 := by
    intro b h
    simp only [List.mem_cons, List.not_mem_nil, or_false] at h
    rcases h with rfl | rfl | rfl | rfl
    · exact tellv_100 ok.step
    · decide
    · exact tellv_100 ok.phase
    · exact Nat.le_trans (wordS_size _) (by decide)
  refine evs (line_join (by decide) (by simp only [List.length_cons, List.length_nil]; omega) hb) ?_
  refine evn (by decide) ?_
  have e : wrap64 (Int.tdiv (o.2.2.1.length : Int) (3 : Int)) = ((o.2.2.1.length / 3 : Nat) : Int) := by
    rw [Int.tdiv_eq_ediv_of_nonneg (by omega), w64_id (by omega) (by omega)]
    omega
  rw [e]
  exact step_l3 ok (o.2.2.1.length / 3) (by omega) (o.2.2.1.length / 3) 0 _ (by omega) (by simp only [List.length_cons, List.length_nil]; omega)
end
end Go.Proofs.YtcgdhpnobgimfaaGreatDoor.Num
end
section
namespace Go.Proofs.YtcgdhpnobgimfaaGreatDoor.Num
open Go.RowKit Go.Proofs.YtcgdhpnobgimfaaGreatDoor.PB Go.Proofs.YtcgdhpnobgimfaaGreatDoorW.PrintWords Go.Proofs.YtcgdhpnobgimfaaGreatDoorW.PrintMore

abbrev nilB : ByteArray := ⟨#[]⟩
def zeroO : OutT := (0, 0, ([] : List Int), ([] : List Bool), ([] : List EvT), 0, ())
theorem tgroup_ok (s : ByteArray) (hs : s.size ≤ 100000) {i : Nat} (hi : i < 1000) : ∃ r, Ev (fun k => trace_group.f k s (i : Int)) r ∧ match groupP s (i : Int) with
    | some p => r = (p.1, p.2, true, ())
    | none => r.2.2.1 = false := by
  have hw : word' (i : Int) := by unfold word'; omega
  have ht := tellv_size hw
  have e8 : (⟨#[32, 32, 103, 114, 111, 117, 112, 32]⟩ : ByteArray).size = 8 := rfl
  have start : ∀ {r}, Ev (fun k => (strings_CutPrefix.f s (gpre (i : Int))).bind fun t2 => (if (!t2.2) = true then (some (([] : List Int), false, false, ())) else ((strings_CutSuffix.f t2.1 (⟨#[32, 102, 114, 111, 122, 101, 110]⟩ : ByteArray)).bind fun t3 => ((strings_Split.f k t3.1 (⟨#[32]⟩ : ByteArray)).bind fun t4 => (trace_group.l6 k ([] : List Int) t3.2 t4 (t4.length : Int) (0 : Int)))))) r → Ev (fun k => trace_group.f k s (i : Int)) r := by
    intro r hr
    unfold trace_group.f
    refine Ev.bind (tell_ok hw) ?_
    refine evp (by rw [e8]; omega) ?_
    refine evp (by rw [size_app, e8, show (⟨#[32]⟩ : ByteArray).size = 1 from rfl]; omega) ?_
    exact hr
  unfold groupP
  cases ha : afterP (gpre (i : Int)) s with
  | none =>
    refine ⟨(([] : List Int), false, false, ()), start ?_, rfl⟩
    refine evs (by rw [cutp_ok, ha]) ?_
    refine evp rfl ?_
    exact Ev.now _
  | some r =>
    have hr : r.size ≤ 100000 := by
      have := congrArg ByteArray.size (after_some ha)
      rw [size_app] at this
      omega
    have hb : (bodyG r).1.size ≤ 100000 := by
      unfold bodyG
      cases hq : beforeS frzB r with
      | none => exact hr
      | some b =>
        have := congrArg ByteArray.size (before_some hq)
        rw [size_app] at this
        show b.size ≤ 100000
        omega
    obtain ⟨res, h1, h2⟩ := group_l6 (bodyG r).2 (partsB 32 (bodyG r).1) (fun w hw => by have := parts_size hw; omega) (by have := parts_len (c := 32) (s := (bodyG r).1); omega) _ 0 [] (Nat.zero_add _) (by have := parts_len (c := 32) (s := (bodyG r).1); simp only [List.length_nil]; omega)
    refine ⟨res, start ?_, ?_⟩
    · refine evs (by rw [cutp_ok, ha]) ?_
      refine evn (by simp) ?_
      refine evs (a := bodyG r) (by
        show strings_CutSuffix.f r frzB = _
        rw [cuts_ok r frzB (by omega) (by decide)]
        unfold bodyG
        cases beforeS frzB r <;> rfl) ?_
      have hsp : ∀ k, strings_Split.f k (bodyG r).1 (⟨#[32]⟩ : ByteArray) = some (partsB 32 (bodyG r).1) := fun k => split_ok k _ (by omega) 32
      exact Ev.bind ⟨0, fun k _ => hsp k⟩ h1
    · rw [List.drop_zero] at h2
      simp only
      cases ho : ownL (partsB 32 (bodyG r).1) with
      | none => rw [ho] at h2; exact h2
      | some l =>
        rw [ho] at h2
        simp only [List.nil_append] at h2 ⊢
        by_cases c : l.length = 3
        · rw [if_pos c]
          simp only
          rw [h2, decide_eq_true c]
        · rw [if_neg c]
          simp only
          rw [h2, decide_eq_false c]
theorem groupP_some {s : ByteArray} {i : Int} {l : List Int} {f : Bool} (h : groupP s i = some (l, f)) : s = (⟨#[32, 32, 103, 114, 111, 117, 112]⟩ : ByteArray) ++ tailS (tellv i :: (decL l ++ (if f = true then [(⟨#[102, 114, 111, 122, 101, 110]⟩ : ByteArray)] else []))) ∧ l.length = 3 ∧ ∀ x ∈ l, word' x := by
  unfold groupP at h
  split at h
  · rename_i r hr
    split at h
    · rename_i m hm
      split at h
      · rename_i h3
        cases h
        obtain ⟨e1, e2⟩ := ownL_some hm
        refine ⟨?_, h3, e2⟩
        have e3 := after_some hr
        have hp : ∃ w0 W, partsB 32 (bodyG r).1 = w0 :: W := by
          cases hq : partsB 32 (bodyG r).1 with
          | nil => rw [hq] at hm; cases hm; cases h3
          | cons w W => exact ⟨w, W, rfl⟩
        obtain ⟨w0, W, hp⟩ := hp
        have e4 := words_back _ hp
        have e5 : r = (bodyG r).1 ++ (if (bodyG r).2 = true then frzB else nilB) := by
          unfold bodyG
          cases hq : beforeS frzB r with
          | none => show r = r ++ nilB; rw [app_nil]
          | some b => exact before_some hq
        generalize bodyG r = bf at *
        obtain ⟨b, f⟩ := bf
        simp only at *
        have e9 : (if f = true then frzB else nilB) = tailS (if f = true then [(⟨#[102, 114, 111, 122, 101, 110]⟩ : ByteArray)] else []) := by
          cases f
          · rfl
          · decide +kernel
        have e8 : (⟨#[32, 32, 103, 114, 111, 117, 112, 32]⟩ : ByteArray) = (⟨#[32, 32, 103, 114, 111, 117, 112]⟩ : ByteArray) ++ (⟨#[32]⟩ : ByteArray) := rfl
        rw [← e1, hp, tailS, tailS_app, tailS, ← e9, e3]
        conv => lhs; rw [e5]
        rw [e4]
        unfold gpre
        rw [e8]
        simp only [app_assoc]
      · cases h
    · cases h
  · cases h
def fidx (w : ByteArray) : List ByteArray → Int → Int
  | [], _ => -1
  | x :: r, i => if w = x then i else fidx w r (i + 1)
theorem index_loop (L : List ByteArray) (w : ByteArray) (hl : L.length < 1000000) (d : Nat) : ∀ i : Nat, i + d = L.length → Ev (fun k => slices_Index___string_string_.l2 k L w (L.length : Int) (i : Int)) (fidx w (L.drop i) (i : Int)) := by
  induction d with
  | zero =>
    intro i h
    refine Ev.step (fun k => by rw [slices_Index___string_string_.l2]) ?_
    refine evn (by omega) ?_
    rw [List.drop_eq_nil_of_le (by omega)]
    exact Ev.now _
  | succ d ih =>
    intro i h
    have hi : i < L.length := by omega
    have hg : L.getD i (⟨#[]⟩ : ByteArray) = L[i] := by rw [List.getD_eq_getElem?_getD, List.getElem?_eq_getElem hi]; rfl
    refine Ev.step (fun k => by rw [slices_Index___string_string_.l2]) ?_
    refine evp (by omega) ?_
    refine evp (by omega) ?_
    refine evp (by omega) ?_
    rw [show ((i : Int)).toNat = i from rfl, hg, List.drop_eq_getElem_cons hi, fidx]
    by_cases c : w = L[i]
    · rw [if_pos c]
      refine evp ((tl_eq _ _).2 c) ?_
      exact Ev.now _
    · rw [if_neg c]
      refine evn (fun q => c ((tl_eq _ _).1 q)) ?_
      rw [w64_succ (by omega)]
      exact ih (i + 1) (by omega)
def statW : List ByteArray := [(⟨#[103, 111, 101, 115]⟩ : ByteArray), (⟨#[100, 111, 110, 101]⟩ : ByteArray), (⟨#[115, 116, 111, 112, 112, 101, 100]⟩ : ByteArray), (⟨#[102, 97, 105, 108, 101, 100]⟩ : ByteArray)]
def statv (w : ByteArray) : Int := fidx w statW 0
theorem status_ok (w : ByteArray) : Ev (fun k => trace_status.f k w) (statv w) := by
  unfold trace_status.f slices_Index___string_string_.f
  refine Ev.bind (index_loop statW w (by decide) 4 0 rfl) ?_
  exact Ev.now _
theorem statv_word {w : ByteArray} (h : ¬ statv w < 0) : wordS (statv w) = w ∧ 0 ≤ statv w ∧ statv w ≤ 3 := by
  unfold statv statW at h ⊢
  simp only [fidx] at h ⊢
  split at h
  · rename_i c
    rw [if_pos c, c]
    exact ⟨rfl, by decide, by decide⟩
  · rename_i c1
    rw [if_neg c1]
    split at h
    · rename_i c
      rw [if_pos c, c]
      exact ⟨rfl, by decide, by decide⟩
    · rename_i c2
      rw [if_neg c2]
      split at h
      · rename_i c
        rw [if_pos c, c]
        exact ⟨rfl, by decide, by decide⟩
      · rename_i c3
        rw [if_neg c3]
        split at h
        · rename_i c
          rw [if_pos c, c]
          exact ⟨rfl, by decide, by decide⟩
        · exact absurd (by decide) h
def stepB : ByteArray := ⟨#[115, 116, 101, 112]⟩
def phaseB : ByteArray := ⟨#[112, 104, 97, 115, 101]⟩
open Classical in
noncomputable def headP (s : ByteArray) : Option OutT :=
  if (partsB 32 s).length = 5 ∧ (partsB 32 s).getD 0 nilB = stepB ∧ (partsB 32 s).getD 2 nilB = phaseB ∧ (getv (numsOf ((partsB 32 s).getD 1 nilB))).2 = 0 ∧ (getv (numsOf ((partsB 32 s).getD 3 nilB))).2 = 0 ∧ ¬ statv ((partsB 32 s).getD 4 nilB) < 0 then
    some ((getv (numsOf ((partsB 32 s).getD 1 nilB))).1, (getv (numsOf ((partsB 32 s).getD 3 nilB))).1, [], [], [], statv ((partsB 32 s).getD 4 nilB), ()) else none
theorem head_ok (s : ByteArray) (hs : s.size ≤ 100000) : ∃ r, Ev (fun k => trace_head.f k s) r ∧ match headP s with
    | some o => r = (o, true, ())
    | none => r.2.1 = false := by
  have hsp : ∀ k, strings_Split.f k s (⟨#[32]⟩ : ByteArray) = some (partsB 32 s) := fun k => split_ok k _ (by omega) 32
  have hsz : ∀ i, ((partsB 32 s).getD i nilB).size < 1000000 := fun i => by
    rcases Nat.lt_or_ge i (partsB 32 s).length with c | c
    · have := parts_size (mem_getD nilB c)
      omega
    · rw [List.getD_eq_getElem?_getD, List.getElem?_eq_none c]
      decide
  have start : ∀ {r} {f : Nat → List ByteArray → Option (OutT × Bool × Unit)}, Ev (fun k => f k (partsB 32 s)) r → Ev (fun k => (strings_Split.f k s (⟨#[32]⟩ : ByteArray)).bind (f k)) r := fun h => Ev.bind ⟨0, fun k _ => hsp k⟩ h
  unfold headP trace_head.f
  generalize hW : partsB 32 s = W at *
  have none_of : ∀ {c : Prop} [Decidable c] {x : OutT} {r : OutT × Bool × Unit}, ¬ c → r.2.1 = false → (match (if c then some x else none : Option OutT) with | some o => r = (o, true, ()) | none => r.2.1 = false) := fun h hr => by rw [if_neg h]; exact hr
  have fin : Ev (fun _ => some ((0, 0, ([] : List Int), ([] : List Bool), ([] : List (Int × Int × Int × Unit)), 0, ()), false, ())) (zeroO, false, ()) := Ev.now _
  by_cases c1 : W.length = 5
  case neg => exact ⟨_, start (f := fun k t1 => _) (evn (fun q => c1 (by omega)) fin), none_of (fun q => c1 q.1) rfl⟩
  have l5 : (W.length : Int) = 5 := by omega
  by_cases c2 : W.getD 0 nilB = stepB
  case neg =>
    refine ⟨(zeroO, false, ()), start (f := fun k t1 => _) ?_, none_of (fun q => c2 q.2.1) rfl⟩
    refine evp l5 (evp (by omega) (evp (by omega) (evn (fun q => c2 ((tl_eq _ _).1 q)) fin)))
  by_cases c3 : W.getD 2 nilB = phaseB
  case neg =>
    refine ⟨(zeroO, false, ()), start (f := fun k t1 => _) ?_, none_of (fun q => c3 q.2.2.1) rfl⟩
    refine evp l5 (evp (by omega) (evp (by omega) (evp ((tl_eq _ _).2 c2) (evp (by omega) (evp (by omega) (evn (fun q => c3 ((tl_eq _ _).1 q)) fin))))))
  have mid : ∀ {r} , Ev (fun k => if (getv (numsOf (W.getD 1 nilB))).2 = (0 : Int) then (if (getv (numsOf (W.getD 3 nilB))).2 = (0 : Int) then (if statv (W.getD 4 nilB) < (0 : Int) then (some ((0, 0, ([] : List Int), ([] : List Bool), ([] : List (Int × Int × Int × Unit)), 0, ()), false, ())) else (some (((getv (numsOf (W.getD 1 nilB))).1, (getv (numsOf (W.getD 3 nilB))).1, ([] : List Int), ([] : List Bool), ([] : List (Int × Int × Int × Unit)), statv (W.getD 4 nilB), ()), true, ()))) else (some ((0, 0, ([] : List Int), ([] : List Bool), ([] : List (Int × Int × Int × Unit)), 0, ()), false, ()))) else (some ((0, 0, ([] : List Int), ([] : List Bool), ([] : List (Int × Int × Int × Unit)), 0, ()), false, ()))) r → Ev (fun k => trace_head.f k s) r := by
    intro r hr
    unfold trace_head.f
    refine start (f := fun k t1 => _) ?_
    refine evp l5 (evp (by omega) (evp (by omega) (evp ((tl_eq _ _).2 c2) (evp (by omega) (evp (by omega) (evp ((tl_eq _ _).2 c3) (evp (by omega) (evp (by omega) ?_))))))))
    refine Ev.bind (get_ok _ (hsz 1)) (evp (by omega) (evp (by omega) ?_))
    refine Ev.bind (get_ok _ (hsz 3)) (evp (by omega) (evp (by omega) ?_))
    exact Ev.bind (status_ok _) hr
  by_cases c4 : (getv (numsOf (W.getD 1 nilB))).2 = 0
  case neg => exact ⟨_, mid (evn c4 fin), none_of (fun q => c4 q.2.2.2.1) rfl⟩
  by_cases c5 : (getv (numsOf (W.getD 3 nilB))).2 = 0
  case neg => exact ⟨_, mid (evp c4 (evn c5 fin)), none_of (fun q => c5 q.2.2.2.2.1) rfl⟩
  by_cases c6 : statv (W.getD 4 nilB) < 0
  case pos => exact ⟨_, mid (evp c4 (evp c5 (evp c6 fin))), none_of (fun q => q.2.2.2.2.2 c6) rfl⟩
  refine ⟨_, mid (evp c4 (evp c5 (evn c6 (Ev.now _)))), ?_⟩
  rw [if_pos ⟨c1, c2, c3, c4, c5, c6⟩]
theorem headP_some {s : ByteArray} {o : OutT} (h : headP s = some o) : headS o = s ∧ (0 ≤ o.1 ∧ o.1 ≤ 1099511627776) ∧ (0 ≤ o.2.1 ∧ o.2.1 ≤ 1099511627776) ∧ o.2.2.1 = [] ∧ o.2.2.2.1 = [] ∧ o.2.2.2.2.1 = [] ∧ 0 ≤ o.2.2.2.2.2.1 ∧ o.2.2.2.2.2.1 ≤ 3 := by
  unfold headP at h
  split at h
  · rename_i c
    obtain ⟨c1, c2, c3, c4, c5, c6⟩ := c
    cases h
    obtain ⟨_, v1, v2, v3, v4⟩ := get_back c4
    obtain ⟨_, u1, u2, u3, u4⟩ := get_back c5
    obtain ⟨z1, z2, z3⟩ := statv_word c6
    have tellB : ∀ {b : ByteArray}, (getv (numsOf b)).2 = 0 → tellv (getv (numsOf b)).1 = b := fun {b} q => by
      obtain ⟨_, a1, a2, a3, a4⟩ := get_back q
      unfold tellv
      rw [a1, if_neg (by omega), a4, str_nums]
    refine ⟨?_, by simp only; omega, by simp only; omega, rfl, rfl, rfl, z2, z3⟩
    unfold headS
    simp only
    rw [tellB c4, tellB c5, z1]
    generalize hW : partsB 32 s = W at *
    match W, c1 with
    | [w0, w1, w2, w3, w4], _ =>
      have e := words_back s hW
      rw [show w0 = stepB from c2, show w2 = phaseB from c3] at e
      rw [e]
      rfl
  · cases h
def eventP (s : ByteArray) (step : Int) : Option (Int × Int × Int) := match afterP (⟨#[32, 32]⟩ : ByteArray) s with
  | some r => if (parsed step (numsOf r) 11 1).2.2.2 = true then some ((parsed step (numsOf r) 11 1).1, (parsed step (numsOf r) 11 1).2.1, (parsed step (numsOf r) 11 1).2.2.1) else none
  | none => none
theorem event_ok (s : ByteArray) (hs : s.size ≤ 100000) (step : Int) : ∃ r, Ev (fun k => trace_event.f k s step) r ∧ match eventP s step with
    | some e => r = (e.1, e.2.1, e.2.2, true)
    | none => r.2.2.2 = false := by
  unfold trace_event.f eventP
  cases ha : afterP (⟨#[32, 32]⟩ : ByteArray) s with
  | none =>
    refine ⟨(0, 0, 0, false), ?_, rfl⟩
    refine evs (by rw [cutp_ok, ha]) ?_
    refine evn (by simp) ?_
    exact Ev.now _
  | some r =>
    have hr : r.size ≤ 100000 := by
      have := congrArg ByteArray.size (after_some ha)
      rw [size_app] at this
      omega
    refine ⟨parsed step (numsOf r) 11 1, ?_, ?_⟩
    · refine evs (by rw [cutp_ok, ha]) ?_
      refine evp rfl ?_
      refine Ev.bind (parse_ok step r (by omega)) ?_
      exact Ev.now _
    · simp only
      by_cases c : (parsed step (numsOf r) 11 1).2.2.2 = true
      · rw [if_pos c]
        simp only
        rw [← c]
      · rw [if_neg c]
        simpa using c
end Go.Proofs.YtcgdhpnobgimfaaGreatDoor.Num
end
section
namespace Go.Proofs.YtcgdhpnobgimfaaGreatDoor.Num
open Go.RowKit Go.Proofs.YtcgdhpnobgimfaaGreatDoor.PB Go.Proofs.YtcgdhpnobgimfaaGreatDoorW.PrintWords Go.Proofs.YtcgdhpnobgimfaaGreatDoorW.PrintMore

noncomputable def grps : List ByteArray → OutT → OutT × List ByteArray
  | [], o => (o, [])
  | s :: r, o => match groupP s (o.2.2.2.1.length : Int) with
    | some g => grps r (o.1, o.2.1, o.2.2.1 ++ g.1, o.2.2.2.1 ++ [g.2], o.2.2.2.2)
    | none => (o, s :: r)
def evts : List ByteArray → OutT → OutT × List ByteArray
  | [], o => (o, [])
  | s :: r, o => match eventP s o.1 with
    | some e => evts r (o.1, o.2.1, o.2.2.1, o.2.2.2.1, o.2.2.2.2.1 ++ [(e.1, e.2.1, e.2.2, ())], o.2.2.2.2.2)
    | none => (o, s :: r)
noncomputable def oneP : List ByteArray → OutT × Nat
  | [] => (zeroO, 0)
  | s :: r => match headP s with
    | some o => ((evts (grps r o).2 (grps r o).1).1, (s :: r).length - (evts (grps r o).2 (grps r o).1).2.length)
    | none => (zeroO, 0)
section
variable (L : List ByteArray) (hL : ∀ w ∈ L, w.size ≤ 100000) (hn : L.length ≤ 900) (b2 : OutT)
include hL hn
theorem one_l12 (d : Nat) : ∀ (i : Nat) (o : OutT), i + d = L.length → o.2.2.2.2.1.length + d ≤ 100000 →
    Ev (fun k => trace_One.l12 k L (i : Int) b2 o) ((evts (L.drop i) o).1, ((L.length - (evts (L.drop i) o).2.length : Nat) : Int), ()) := by
  induction d with
  | zero =>
    intro i o h ho
    refine Ev.step (fun k => by rw [trace_One.l12]) ?_
    refine evn (by omega) ?_
    rw [List.drop_eq_nil_of_le (by omega), evts, List.length_nil]
    refine Ev.step (fun k => by rw [trace_One.j17]) ?_
    rw [show L.length - 0 = i from by omega]
    exact Ev.now _
  | succ d ih =>
    intro i o h ho
    have hi : i < L.length := by omega
    have hg : L.getD i (⟨#[]⟩ : ByteArray) = L[i] := by rw [List.getD_eq_getElem?_getD, List.getElem?_eq_getElem hi]; rfl
    have hdl : (L[i] :: L.drop (i + 1)).length = L.length - i := by rw [← List.drop_eq_getElem_cons hi, List.length_drop]
    obtain ⟨r, h1, h2⟩ := event_ok L[i] (hL _ (List.getElem_mem hi)) o.1
    refine Ev.step (fun k => by rw [trace_One.l12]) ?_
    refine evp (by omega) ?_
    refine evp (by omega) ?_
    refine evp (by omega) ?_
    rw [show ((i : Int)).toNat = i from rfl, hg, List.drop_eq_getElem_cons hi, evts]
    refine Ev.bind h1 ?_
    cases he : eventP L[i] o.1 with
    | none =>
      rw [he] at h2
      simp only at h2 ⊢
      rw [h2]
      refine evp rfl ?_
      refine Ev.step (fun k => by rw [trace_One.j17]) ?_
      rw [hdl, show L.length - (L.length - i) = i from by omega]
      exact Ev.now _
    | some e =>
      rw [he] at h2
      simp only at h2 ⊢
      rw [h2]
      refine evn (by simp) ?_
      refine evp (by simp only [List.length_cons, List.length_nil]; omega) ?_
      rw [w64_succ (by omega)]
      exact ih (i + 1) _ (by omega) (by simp only [List.length_append, List.length_cons, List.length_nil]; omega)
theorem one_l7 (d : Nat) : ∀ (i : Nat) (o : OutT), i + d = L.length → o.2.2.2.2.1.length + d ≤ 100000 → o.2.2.1.length + 3 * d ≤ 100000 → o.2.2.2.1.length + d < 1000 →
    Ev (fun k => trace_One.l7 k L (i : Int) b2 o) ((evts (grps (L.drop i) o).2 (grps (L.drop i) o).1).1, ((L.length - (evts (grps (L.drop i) o).2 (grps (L.drop i) o).1).2.length : Nat) : Int), ()) := by
  induction d with
  | zero =>
    intro i o h ho hv hf
    refine Ev.step (fun k => by rw [trace_One.l7]) ?_
    refine evn (by omega) ?_
    have := one_l12 L hL hn b2 0 i o h ho
    rw [List.drop_eq_nil_of_le (by omega)] at this ⊢
    exact this
  | succ d ih =>
    intro i o h ho hv hf
    have hi : i < L.length := by omega
    have hg : L.getD i (⟨#[]⟩ : ByteArray) = L[i] := by rw [List.getD_eq_getElem?_getD, List.getElem?_eq_getElem hi]; rfl
    obtain ⟨r, h1, h2⟩ := tgroup_ok L[i] (hL _ (List.getElem_mem hi)) (i := o.2.2.2.1.length) (by omega)
    refine Ev.step (fun k => by rw [trace_One.l7]) ?_
    refine evp (by omega) ?_
    refine evp (by omega) ?_
    refine evp (by omega) ?_
    rw [show ((i : Int)).toNat = i from rfl, hg]
    refine Ev.bind h1 ?_
    cases he : groupP L[i] (o.2.2.2.1.length : Int) with
    | none =>
      rw [he] at h2
      simp only at h2
      rw [h2]
      refine evp rfl ?_
      have hs : grps (L.drop i) o = (o, L.drop i) := by rw [List.drop_eq_getElem_cons hi, grps, he]
      rw [hs]
      exact one_l12 L hL hn b2 (d + 1) i o h ho
    | some g =>
      rw [he] at h2
      simp only at h2
      obtain ⟨gl, gf⟩ := g
      have h3 := (groupP_some he).2.1
      rw [h2]
      refine evn (by simp) ?_
      refine evp (by simp only; omega) ?_
      refine evp (by simp only [List.length_cons, List.length_nil]; omega) ?_
      rw [w64_succ (by omega)]
      have hs : grps (L.drop i) o = grps (L.drop (i + 1)) (o.1, o.2.1, o.2.2.1 ++ gl, o.2.2.2.1 ++ [gf], o.2.2.2.2) := by rw [List.drop_eq_getElem_cons hi, grps, he]
      rw [hs]
      exact ih (i + 1) _ (by omega) (by simp only; omega) (by simp only [List.length_append]; omega) (by simp only [List.length_append, List.length_cons, List.length_nil]; omega)
theorem one_ok : Ev (fun k => trace_One.f k L) ((oneP L).1, ((oneP L).2 : Int), ()) := by
  unfold trace_One.f
  cases hc : L with
  | nil =>
    refine evp rfl ?_
    exact Ev.now _
  | cons s r =>
    rw [← hc]
    have hl : L.length = r.length + 1 := by rw [hc]; rfl
    have hg : L.getD ((0 : Int)).toNat (⟨#[]⟩ : ByteArray) = s := by rw [hc]; rfl
    refine evn (by omega) ?_
    refine evp (by omega) ?_
    refine evp (by omega) ?_
    rw [hg]
    obtain ⟨x, h1, h2⟩ := head_ok s (hL s (by rw [hc]; exact List.mem_cons_self))
    refine Ev.bind h1 ?_
    have ho : oneP L = match headP s with
      | some o => ((evts (grps r o).2 (grps r o).1).1, L.length - (evts (grps r o).2 (grps r o).1).2.length)
      | none => (zeroO, 0) := by
      rw [hc, oneP]
    cases hh : headP s with
    | none =>
      rw [hh] at h2 ho
      simp only at h2
      rw [h2, ho]
      refine evp rfl ?_
      exact Ev.now _
    | some o =>
      rw [hh] at h2 ho
      simp only at h2
      rw [h2, ho]
      refine evn (by simp) ?_
      obtain ⟨_, _, _, hv, hf, he, _⟩ := headP_some hh
      have := one_l7 L hL hn (0, 0, ([] : List Int), ([] : List Bool), ([] : List (Int × Int × Int × Unit)), 0, ()) (L.length - 1) 1 o (by omega) (by rw [he, List.length_nil]; omega) (by rw [hv, List.length_nil]; omega) (by rw [hf, List.length_nil]; omega)
      rw [show L.drop 1 = r from by rw [hc]; rfl] at this
      exact this
end
structure TellOk (o : OutT) : Prop where
  step : 0 ≤ o.1 ∧ o.1 ≤ 1099511627776
  phase : 0 ≤ o.2.1 ∧ o.2.1 ≤ 1099511627776
  vals : ∀ x ∈ o.2.2.1, word' x
  len : o.2.2.1.length = 3 * o.2.2.2.1.length
  evs : ∀ e ∈ o.2.2.2.2.1, e.1 = o.1 ∧ (1 ≤ e.2.1 ∧ e.2.1 ≤ 11) ∧ 0 ≤ e.2.2.1 ∧ e.2.2.1 ≤ 1099511627776
  status : 0 ≤ o.2.2.2.2.2.1 ∧ o.2.2.2.2.2.1 ≤ 3
end Go.Proofs.YtcgdhpnobgimfaaGreatDoor.Num
end
section
namespace Go.Proofs.YtcgdhpnobgimfaaGreatDoor.Num
open Go.RowKit Go.Proofs.YtcgdhpnobgimfaaGreatDoor.PB Go.Proofs.YtcgdhpnobgimfaaGreatDoorW.PrintWords Go.Proofs.YtcgdhpnobgimfaaGreatDoorW.PrintMore

theorem tcount_ok (a : Int) : trace_count.f a = some (decide (0 ≤ a ∧ a ≤ 1099511627776)) := by
  unfold trace_count.f
  by_cases h : a ≥ 0
  · rw [if_pos h]
    congr 1
    exact decide_eq_decide.2 ⟨fun q => ⟨h, q⟩, fun q => q.2⟩
  · rw [if_neg h, decide_eq_false (fun q => h q.1)]
theorem event_c1 {o : OutT} {e : EvT} (h : e.1 = o.1 ∧ (1 ≤ e.2.1 ∧ e.2.1 ≤ 11) ∧ 0 ≤ e.2.2.1 ∧ e.2.2.1 ≤ 1099511627776) : Ev (fun k => trace_Check_c1.f k e o) false := by
  unfold trace_Check_c1.f
  refine evp h.1 ?_
  refine evs (word_ok36 _) ?_
  refine evn (fun q => ((word_all e.2.1).2.2.1 (q.trans nil_tl)) h.2.1) ?_
  refine evs (tcount_ok _) ?_
  rw [decide_eq_true h.2.2]
  exact Ev.now _
theorem index_c1 (o : OutT) (es : List EvT) (he : ∀ e ∈ es, e.1 = o.1 ∧ (1 ≤ e.2.1 ∧ e.2.1 ≤ 11) ∧ 0 ≤ e.2.2.1 ∧ e.2.2.1 ≤ 1099511627776) (hl : es.length ≤ 1000) (d : Nat) : ∀ i : Nat, i + d = es.length →
    Ev (fun k => slices_IndexFunc___api_Event_api_Event__34.l2 k es (some (o, ())) (es.length : Int) (i : Int)) (-1) := by
  induction d with
  | zero =>
    intro i h
    refine Ev.step (fun k => by rw [slices_IndexFunc___api_Event_api_Event__34.l2]) ?_
    refine evn (by omega) ?_
    exact Ev.now _
  | succ d ih =>
    intro i h
    have hi : i < es.length := by omega
    refine Ev.step (fun k => by rw [slices_IndexFunc___api_Event_api_Event__34.l2]) ?_
    refine evp (by omega) ?_
    refine evp (by omega) ?_
    refine evp (by omega) ?_
    refine evs rfl ?_
    refine Ev.bind (event_c1 (he _ (mem_getD (0, 0, 0, ()) (i := i) hi))) ?_
    refine evn (by simp) ?_
    rw [w64_succ (by omega)]
    exact ih (i + 1) (by omega)
theorem check_ok {o : OutT} (ok : TellOk o) (hf : o.2.2.2.1.length ≤ 1000) (he : o.2.2.2.2.1.length ≤ 1000) : Ev (fun k => trace_Check.f k o) 0 := by
  have h3 := ok.len
  have hs := ok.status
  unfold trace_Check.f
  refine evs (tcount_ok _) ?_
  refine evn (by rw [decide_eq_true ok.step]; decide) ?_
  refine evs (tcount_ok _) ?_
  refine evn (by rw [decide_eq_true ok.phase]; decide) ?_
  refine evn (by omega) ?_
  refine evn (by omega) ?_
  refine evp (by rw [w64_id (by omega) (by omega)]; omega) ?_
  have hc : Ev (fun k => slices_ContainsFunc___api_Event_api_Event__34.f k o.2.2.2.2.1 (some (o, ()))) false := by
    unfold slices_ContainsFunc___api_Event_api_Event__34.f slices_IndexFunc___api_Event_api_Event__34.f
    refine Ev.bind (index_c1 o _ ok.evs he _ 0 (Nat.zero_add _)) ?_
    exact Ev.now _
  refine Ev.bind hc ?_
  refine evn (by simp) ?_
  exact Ev.now _
theorem TellOk.out {o : OutT} (ok : TellOk o) (h : (stepL o).length ≤ 100) : OutOk o := by
  have h3 := ok.len
  have h1 := ok.step
  have h2 := ok.phase
  unfold stepL at h
  rw [h3, Nat.mul_div_cancel_left _ (by decide)] at h
  simp only [List.length_append, List.length_map, List.length_range', List.length_cons, List.length_nil, List.length_drop] at h
  refine ⟨by unfold word'; omega, by unfold word'; omega, ok.vals, by omega, by omega, by omega, fun e he => ?_⟩
  have := (ok.evs e he).2.2
  unfold word'
  omega
end Go.Proofs.YtcgdhpnobgimfaaGreatDoor.Num
end
