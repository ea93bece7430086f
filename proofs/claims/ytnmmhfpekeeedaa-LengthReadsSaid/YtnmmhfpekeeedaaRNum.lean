/- Counts as digits (layer 1): the program's and the reference's, by value. -/
import Derived.Test.YtnmmhfpekeeedaaPRx0
import Derived.Test.YtnmmhfpekeeedaaPRx9
import Derived.Test.YtnmmhfpekeeedaaPRx10
import Derived.Test.YtnmmhfpekeeedaaRBytes
namespace Go.Proofs.Ytnmmhfpekeeedaa.Num
set_option linter.unusedVariables false
set_option linter.unusedSimpArgs false
open Go.RowKit Go.Proofs.Ytnmmhfpekeeedaa.PR Go.Proofs.YtnmmhfpekeeedaaW.PrintWords Go.Proofs.YtnmmhfpekeeedaaW.PrintMore

/-! ### Digits -/
def dig : Nat → Int → List Int → List Int
  | 0, _, l => l
  | k + 1, u, l => if u / 10 = 0 then (48 + u % 10) :: l else dig k (u / 10) ((48 + u % 10) :: l)
def isDig (x : Int) : Prop := 48 ≤ x ∧ x ≤ 57
instance (x : Int) : Decidable (isDig x) := by unfold isDig; infer_instance
def valf (a : Int) (l : List Int) : Int := l.foldl (fun a x => 10 * a + (x - 48)) a
theorem valf_app (a : Int) (l m : List Int) : valf a (l ++ m) = valf (valf a l) m := by
  unfold valf
  rw [List.foldl_append]
theorem valf_cons (a x : Int) (l : List Int) : valf a (x :: l) = valf (10 * a + (x - 48)) l := rfl
theorem valf_ge {l : List Int} (h : ∀ x, x ∈ l → isDig x) : ∀ {a : Int}, 0 ≤ a → a * 10 ^ l.length ≤ valf a l := by
  induction l with
  | nil => intro a _; simp [valf]
  | cons x t ih =>
    intro a ha
    have hx := h x (List.mem_cons_self)
    have ih := ih (fun y hy => h y (List.mem_cons_of_mem _ hy)) (a := 10 * a + (x - 48)) (by have := hx.1; omega)
    rw [valf_cons, List.length_cons, Int.pow_succ]
    have p : (0 : Int) ≤ 10 ^ t.length := Int.le_of_lt (Int.pow_pos (by decide))
    have q : a * (10 ^ t.length * 10) ≤ (10 * a + (x - 48)) * 10 ^ t.length := by
      rw [show a * (10 ^ t.length * 10) = (10 * a) * 10 ^ t.length from by rw [Int.mul_comm (10 ^ t.length) 10, ← Int.mul_assoc, Int.mul_comm a 10]]
      exact Int.mul_le_mul_of_nonneg_right (by have := hx.1; omega) p
    omega
theorem valf_mono {l : List Int} (h : ∀ x, x ∈ l → isDig x) {a : Int} (ha : 0 ≤ a) : a ≤ valf a l := by
  have g := valf_ge h ha
  have p : (1 : Int) ≤ 10 ^ l.length := Int.pow_pos (by decide)
  have q : a * 1 ≤ a * 10 ^ l.length := Int.mul_le_mul_of_nonneg_left p ha
  omega
theorem valf_lt {l : List Int} (h : ∀ x, x ∈ l → isDig x) : ∀ {a : Int} {i : Nat}, 0 ≤ a → a < 10 ^ i → valf a l < 10 ^ (i + l.length) := by
  induction l with
  | nil => intro a i _ h2; simpa [valf] using h2
  | cons x t ih =>
    intro a i ha h2
    have hx := h x (List.mem_cons_self)
    have h0 := hx.1
    have h1 := hx.2
    rw [valf_cons, List.length_cons, show i + (t.length + 1) = (i + 1) + t.length from by omega]
    refine ih (fun y hy => h y (List.mem_cons_of_mem _ hy)) (by omega) ?_
    rw [Int.pow_succ]
    omega
theorem dig_props (k : Nat) : ∀ (u : Int) (acc : List Int), 0 ≤ u → u < 10 ^ (k + 1) → ∃ m : List Int, dig (k + 1) u acc = m ++ acc ∧ 0 < m.length ∧ m.length ≤ k + 1 ∧ (∀ x, x ∈ m → isDig x) ∧ valf 0 m = u ∧ (1 < m.length → m.getD 0 0 ≠ 48) := by
  induction k with
  | zero =>
    intro u acc h0 h1
    have h1 : u < 10 := by simpa using h1
    refine ⟨[48 + u], ?_, by simp, by simp, ?_, ?_, by simp⟩
    · show (if u / 10 = 0 then _ else _) = _
      rw [if_pos (by omega), show u % 10 = u from by omega]
      rfl
    · intro x hx
      rw [List.mem_singleton] at hx
      unfold isDig
      omega
    · simp [valf]
      omega
  | succ k ih =>
    intro u acc h0 h1
    rw [show dig (k + 1 + 1) u acc = if u / 10 = 0 then (48 + u % 10) :: acc else dig (k + 1) (u / 10) ((48 + u % 10) :: acc) from rfl]
    by_cases c : u / 10 = 0
    · rw [if_pos c]
      refine ⟨[48 + u % 10], rfl, by simp, by simp, ?_, ?_, by simp⟩
      · intro x hx
        rw [List.mem_singleton] at hx
        unfold isDig
        omega
      · simp [valf]
        omega
    · rw [if_neg c]
      have hq : u / 10 < 10 ^ (k + 1) := by
        rw [Int.pow_succ] at h1
        omega
      obtain ⟨m, e, l0, l1, hd, hv, hz⟩ := ih (u / 10) ((48 + u % 10) :: acc) (by omega) hq
      refine ⟨m ++ [48 + u % 10], by rw [e]; simp, by simp, by simp; omega, ?_, ?_, ?_⟩
      · intro x hx
        rcases List.mem_append.1 hx with hx | hx
        · exact hd x hx
        · rw [List.mem_singleton] at hx
          unfold isDig
          omega
      · rw [valf_app, hv]
        show 10 * (u / 10) + (48 + u % 10 - 48) = u
        omega
      · intro _
        obtain ⟨x, t, rfl⟩ : ∃ x t, m = x :: t := by
          cases m with
          | nil => simp at l0
          | cons x t => exact ⟨x, t, rfl⟩
        show x ≠ 48
        cases t with
        | nil =>
          intro hx
          rw [hx] at hv
          simp [valf] at hv
          omega
        | cons y t => exact hz (by simp)
theorem dig_val (n : Nat) : ∀ (l acc : List Int) (k : Nat), l.length = n + 1 → (∀ x, x ∈ l → isDig x) → (l.length = 1 ∨ l.getD 0 0 ≠ 48) → l.length ≤ k → dig k (valf 0 l) acc = l ++ acc := by
  induction n with
  | zero =>
    intro l acc k hl hd _ hk
    obtain ⟨x, rfl⟩ := List.length_eq_one_iff.1 hl
    obtain ⟨k, rfl⟩ : ∃ j, k = j + 1 := ⟨k - 1, by simp at hk; omega⟩
    have hx := hd x (by simp)
    have h0 := hx.1
    have h1 := hx.2
    have e : valf 0 [x] = x - 48 := by simp [valf]
    rw [e]
    show (if (x - 48) / 10 = 0 then (48 + (x - 48) % 10) :: acc else _) = _
    rw [if_pos (by omega), show 48 + (x - 48) % 10 = x from by omega]
    rfl
  | succ n ih =>
    intro l acc k hl hd hz hk
    obtain ⟨m, x, rfl⟩ : ∃ m x, l = m ++ [x] := by
      refine ⟨l.dropLast, l.getLast (by intro e; rw [e] at hl; simp at hl), ?_⟩
      rw [List.dropLast_concat_getLast]
    have hm : m.length = n + 1 := by simpa using hl
    obtain ⟨k, rfl⟩ : ∃ j, k = j + 1 := ⟨k - 1, by simp at hk; omega⟩
    have hx := hd x (by simp)
    have h0 := hx.1
    have h1 := hx.2
    have hdm : ∀ y, y ∈ m → isDig y := fun y hy => hd y (by simp [hy])
    obtain ⟨y, t, rfl⟩ : ∃ y t, m = y :: t := by
      cases m with
      | nil => simp at hm
      | cons y t => exact ⟨y, t, rfl⟩
    have hy : y ≠ 48 := by
      rcases hz with hz | hz
      · simp at hz
      · exact hz
    have hyd := hdm y (by simp)
    have hv1 : 1 ≤ valf 0 (y :: t) := by
      rw [valf_cons]
      have := valf_mono (l := t) (fun z hz => hdm z (by simp [hz])) (a := 10 * 0 + (y - 48)) (by have := hyd.1; omega)
      have := hyd.1
      omega
    have e : valf 0 ((y :: t) ++ [x]) = 10 * valf 0 (y :: t) + (x - 48) := by
      rw [valf_app]
      rfl
    rw [e]
    rw [show dig (k + 1) (10 * valf 0 (y :: t) + (x - 48)) acc = if (10 * valf 0 (y :: t) + (x - 48)) / 10 = 0 then (48 + (10 * valf 0 (y :: t) + (x - 48)) % 10) :: acc else dig k ((10 * valf 0 (y :: t) + (x - 48)) / 10) ((48 + (10 * valf 0 (y :: t) + (x - 48)) % 10) :: acc) from rfl]
    rw [if_neg (by omega), show (10 * valf 0 (y :: t) + (x - 48)) / 10 = valf 0 (y :: t) from by omega, show 48 + (10 * valf 0 (y :: t) + (x - 48)) % 10 = x from by omega]
    rw [ih (y :: t) (x :: acc) k hm hdm (.inr hy) (by simp at hk hm ⊢; omega)]
    simp
theorem p20 : (18446744073709551616 : Int) < 10 ^ 20 := by decide
theorem digits_loop (m : Nat) : ∀ (u : Int) (l : List Int), l.length + (m + 1) = 20 → 0 ≤ u → u < 18446744073709551616 → u < 10 ^ (m + 1) → Ev (fun k => num_digits.l0 k u l) (strOfNums (dig (m + 1) u l)) := by
  induction m with
  | zero =>
    intro u l hl h0 h1 h2
    have h2 : u < 10 := by simpa using h2
    refine Ev.step (fun k => by rw [num_digits.l0]) ?_
    refine evp (by omega) ?_
    refine evp h0 ?_
    refine evp h1 ?_
    refine evp (by omega) ?_
    rw [show dig (0 + 1) u l = (48 + u % 10) :: l from if_pos (by omega)]
    exact Ev.now _
  | succ m ih =>
    intro u l hl h0 h1 h2
    refine Ev.step (fun k => by rw [num_digits.l0]) ?_
    refine evp (by omega) ?_
    refine evp h0 ?_
    refine evp h1 ?_
    by_cases c : u / 10 = 0
    · rw [show dig (m + 1 + 1) u l = (48 + u % 10) :: l from if_pos c]
      exact evp c (Ev.now _)
    · rw [show dig (m + 1 + 1) u l = dig (m + 1) (u / 10) ((48 + u % 10) :: l) from if_neg c]
      refine evn c (ih _ _ (by simp only [List.length_cons]; omega) (by omega) (by omega) ?_)
      rw [Int.pow_succ] at h2
      omega
theorem digits_ok {u : Int} (h0 : 0 ≤ u) (h1 : u < 18446744073709551616) : Ev (fun k => num_digits.f k u) (strOfNums (dig 20 u [])) := by
  unfold num_digits.f
  have := p20
  exact digits_loop 19 u [] rfl h0 h1 (by omega)
/-! ### Reading -/
def lead : List Int → Nat
  | [] => 0
  | x :: t => if isDig x then lead t + 1 else 0
theorem lead_le (l : List Int) : lead l ≤ l.length := by
  induction l with
  | nil => simp [lead]
  | cons x t ih =>
    unfold lead
    split
    · simp; omega
    · simp
theorem lead_all (l : List Int) : lead l = l.length ↔ ∀ x, x ∈ l → isDig x := by
  induction l with
  | nil => simp [lead]
  | cons x t ih =>
    unfold lead
    have := lead_le t
    by_cases c : isDig x
    · rw [if_pos c]
      simp only [List.length_cons, Nat.add_right_cancel_iff, List.mem_cons, forall_eq_or_imp]
      rw [ih]
      exact ⟨fun h => ⟨c, h⟩, fun h => h.2⟩
    · rw [if_neg c]
      simp only [List.length_cons, List.mem_cons, forall_eq_or_imp]
      exact ⟨fun h => by omega, fun h => absurd h.1 c⟩
theorem drop_getD (l : List Int) (i : Nat) (h : i < l.length) : l.drop i = l.getD i 0 :: l.drop (i + 1) := by
  rw [List.drop_eq_getElem_cons h, List.getD_eq_getElem?_getD, List.getElem?_eq_getElem h]
  rfl
theorem lead_loop (s : ByteArray) (hs : s.size < 1000000) (e : Nat) : ∀ i : Nat, i + e = s.size → Ev (fun k => num_Lead.l0 k s (numsOf s) ((numsOf s).length : Int) (i : Int)) ((i + lead ((numsOf s).drop i) : Nat) : Int) := by
  have hl := nums_len s
  induction e with
  | zero =>
    intro i h
    refine Ev.step (fun k => by rw [num_Lead.l0]) ?_
    refine evn (by omega) ?_
    rw [List.drop_eq_nil_of_le (by omega)]
    rw [show ((i + lead [] : Nat) : Int) = (s.size : Int) from by simp [lead]; omega]
    exact Ev.now _
  | succ e ih =>
    intro i h
    have nx := ih (i + 1) (by omega)
    refine Ev.step (fun k => by rw [num_Lead.l0]) ?_
    refine evp (by omega) ?_
    refine evp (by omega) ?_
    refine evp (by omega) ?_
    rw [rd_nat, drop_getD _ _ (by omega)]
    by_cases c : (numsOf s).getD i 0 < 48
    · rw [show lead ((numsOf s).getD i 0 :: (numsOf s).drop (i + 1)) = 0 from if_neg (by unfold isDig; omega)]
      exact evp c (Ev.now _)
    · refine evn c ?_
      by_cases d : (numsOf s).getD i 0 > 57
      · rw [show lead ((numsOf s).getD i 0 :: (numsOf s).drop (i + 1)) = 0 from if_neg (by unfold isDig; omega)]
        exact evp d (Ev.now _)
      · rw [show lead ((numsOf s).getD i 0 :: (numsOf s).drop (i + 1)) = lead ((numsOf s).drop (i + 1)) + 1 from if_pos (by unfold isDig; omega)]
        refine evn d ?_
        rw [w64_succ (by omega), show i + (lead ((numsOf s).drop (i + 1)) + 1) = i + 1 + lead ((numsOf s).drop (i + 1)) from by omega]
        exact nx
theorem lead_ok (s : ByteArray) (hs : s.size < 1000000) : Ev (fun k => num_Lead.f k s) (lead (numsOf s) : Int) := by
  unfold num_Lead.f
  refine evp (by omega) ?_
  unfold num_Lead.g
  have := lead_loop s hs s.size 0 (by omega)
  rw [List.drop_zero, Nat.zero_add] at this
  exact this
/-- Which count a text is; what is told. -/
def bad (l : List Int) : Prop := l = [] ∨ lead l < l.length ∨ (1 < l.length ∧ l.getD 0 0 = 48)
instance (l : List Int) : Decidable (bad l) := by unfold bad; infer_instance
def getv (l : List Int) : Int × Int := if bad l then (0, 2) else if valf 0 l > 1099511627776 then (0, 3) else (valf 0 l, 0)
theorem get_loop (l : List Int) (hl : l.length < 1000000) (hd : ∀ x, x ∈ l → isDig x) (e : Nat) : ∀ (i : Nat) (a : Int), i + e = l.length → 0 ≤ a → a ≤ 1099511627776 →
    Ev (fun k => num_Get.l0 k a l (l.length : Int) (i : Int)) (if valf a (l.drop i) > 1099511627776 then (0, 3) else (valf a (l.drop i), 0)) := by
  induction e with
  | zero =>
    intro i a h h0 h1
    refine Ev.step (fun k => by rw [num_Get.l0]) ?_
    refine evn (by omega) ?_
    rw [List.drop_eq_nil_of_le (by omega), show valf a [] = a from rfl, if_neg (by omega)]
    exact Ev.now _
  | succ e ih =>
    intro i a h h0 h1
    have hi : i < l.length := by omega
    have hx : isDig (l.getD i 0) := hd _ (by rw [List.getD_eq_getElem?_getD, List.getElem?_eq_getElem hi]; exact List.getElem_mem hi)
    have x0 := hx.1
    have x1 := hx.2
    refine Ev.step (fun k => by rw [num_Get.l0]) ?_
    refine evp (by omega) ?_
    refine evp (by omega) ?_
    refine evp (by omega) ?_
    rw [rd_nat, drop_getD _ _ hi, valf_cons, show (l.getD i 0 - 48) % 256 = l.getD i 0 - 48 from by omega, w64_id (x := 10 * a) (by omega) (by omega), w64_id (x := 10 * a + (l.getD i 0 - 48)) (by omega) (by omega)]
    by_cases c : 10 * a + (l.getD i 0 - 48) > 1099511627776
    · refine evp c ?_
      have m := valf_mono (l := l.drop (i + 1)) (fun y hy => hd y (List.mem_of_mem_drop hy)) (a := 10 * a + (l.getD i 0 - 48)) (by omega)
      rw [if_pos (by omega)]
      exact Ev.now _
    · refine evn c ?_
      rw [w64_succ (by omega)]
      exact ih (i + 1) _ (by omega) (by omega) (by omega)
theorem get_ok (s : ByteArray) (hs : s.size < 1000000) : Ev (fun k => num_Get.f k s) (getv (numsOf s)) := by
  have hl := nums_len s
  have j : ∀ b : Bool, (b = true ↔ bad (numsOf s)) → Ev (fun k => num_Get.j0 k (numsOf s) b) (getv (numsOf s)) := by
    intro b hb
    unfold getv
    refine Ev.step (fun k => by rw [num_Get.j0]) ?_
    by_cases c : b = true
    · rw [if_pos (hb.1 c)]
      exact evp c (Ev.now _)
    · have nb : ¬ bad (numsOf s) := fun h => c (hb.2 h)
      rw [if_neg nb]
      refine evn c ?_
      have hd := (lead_all (numsOf s)).1 (by
        have := lead_le (numsOf s)
        unfold bad at nb
        omega)
      have g := get_loop (numsOf s) (by omega) hd (numsOf s).length 0 0 (by omega) (by omega) (by omega)
      rw [List.drop_zero] at g
      exact g
  unfold num_Get.f
  refine evp (by omega) ?_
  unfold num_Get.g
  by_cases c1 : s.toList = ([] : List UInt8)
  · refine evp c1 (j true ?_)
    simp only [true_iff]
    exact .inl ((toList_nil s).1 c1)
  · have n1 : numsOf s ≠ [] := fun h => c1 ((toList_nil s).2 h)
    have l0 : 0 < (numsOf s).length := List.length_pos_iff.2 n1
    refine evn c1 ?_
    refine Ev.bind (lead_ok s hs) ?_
    by_cases c2 : (lead (numsOf s) : Int) < (s.size : Int)
    · refine evp c2 (j true ?_)
      simp only [true_iff]
      exact .inr (.inl (by omega))
    · refine evn c2 ?_
      refine evp (by omega) ?_
      rw [show (0 : Int) = ((0 : Nat) : Int) from rfl, bt_nums]
      by_cases c3 : (numsOf s).getD 0 0 = 48
      · refine evp c3 (j _ ?_)
        rw [decide_eq_true_eq]
        unfold bad
        constructor
        · intro h
          exact .inr (.inr ⟨by omega, c3⟩)
        · rintro (h | h | h)
          · exact absurd h n1
          · omega
          · omega
      · refine evn c3 (j _ ?_)
        simp only [Bool.false_eq_true, false_iff]
        rintro (h | h | h)
        · exact absurd h n1
        · omega
        · exact c3 h.2
end Go.Proofs.Ytnmmhfpekeeedaa.Num
