/- Numbers as decimals (layer 5): the reference's reading, by value. -/
import Derived.Test.YtemmnjnihngjgaaPDx0
import Derived.Test.YtemmnjnihngjgaaPDx6
import Derived.Test.YtemmnjnihngjgaaPDx9
import Derived.Test.YtemmnjnihngjgaaPDx10
import Derived.Test.YtemmnjnihngjgaaDDecP
namespace Go.Proofs.Ytemmnjnihngjgaa.Num
set_option linter.unusedVariables false
set_option linter.unusedSimpArgs false
open Go.RowKit Go.Proofs.Ytemmnjnihngjgaa.PD Go.Proofs.YtemmnjnihngjgaaW.PrintWords Go.Proofs.YtemmnjnihngjgaaW.PrintMore

/-! ### How many places -/
theorem lead_dig_at {l : List Int} : ∀ {k : Nat}, k < lead l → isDig (l.getD k 0) := by
  induction l with
  | nil => intro k h; simp [lead] at h
  | cons x t ih =>
    intro k h
    unfold lead at h
    by_cases c : isDig x
    · rw [if_pos c] at h
      cases k with
      | zero => exact c
      | succ k => exact ih (by omega)
    · rw [if_neg c] at h
      omega
theorem lead_stop {l : List Int} : lead l < l.length → ¬ isDig (l.getD (lead l) 0) := by
  induction l with
  | nil => intro h; simp [lead] at h
  | cons x t ih =>
    intro h
    by_cases c : isDig x
    · have e : lead (x :: t) = lead t + 1 := if_pos c
      rw [e] at h ⊢
      exact ih (by simpa using h)
    · have e : lead (x :: t) = 0 := if_neg c
      rw [e]
      exact c
/-- What is told at the end, where the point lies at p. -/
def finv (b : List Int) (p : Nat) : Int := if p = 0 ∨ (1 < p ∧ b.getD 0 0 = 48) ∨ (p : Int) = (b.length : Int) - 1 then -1 else if p = b.length then 0 else (b.length : Int) - p - 1
theorem ref_places_j4 (t : ByteArray) (ht : t.size < 1000000) (p : Nat) (hp : p ≤ t.size) : ∀ x : Bool, (x = true ↔ p = 0 ∨ (1 < p ∧ (numsOf t).getD 0 0 = 48) ∨ (p : Int) = (t.size : Int) - 1) → Ev (fun k => regimenref05_Places.j4 k t (p : Int) x) (finv (numsOf t) p) := by
  intro x hx
  have hn := nums_len t
  unfold finv
  rw [hn]
  refine Ev.step (fun k => by rw [regimenref05_Places.j4]) ?_
  by_cases c : x = true
  · rw [if_pos (hx.1 c)]
    exact evp c (Ev.now _)
  · rw [if_neg (fun h => c (hx.2 h))]
    refine evn c ?_
    by_cases d : p = t.size
    · rw [if_pos d]
      exact evp (by omega) (Ev.now _)
    · rw [if_neg d]
      refine evn (by omega) ?_
      rw [w64_id (x := (t.size : Int) - p) (by omega) (by omega), w64_id (by omega) (by omega)]
      exact Ev.now _
theorem ref_places_end (t : ByteArray) (ht : t.size < 1000000) (p : Nat) (hp : p ≤ t.size) : Ev (fun k => regimenref05_Places.l0 k t (p : Int) (t.size : Int)) (finv (numsOf t) p) := by
  have hn := nums_len t
  have j := ref_places_j4 t ht p hp
  have hw : wrap64 ((t.size : Int) - 1) = (t.size : Int) - 1 := w64_id (by omega) (by omega)
  refine Ev.step (fun k => by rw [regimenref05_Places.l0]) ?_
  refine evn (by omega) ?_
  rw [hw]
  by_cases c : p = 0
  · refine evp (by omega) (j true ?_)
    simp only [true_iff]
    exact .inl c
  · refine evn (by omega) ?_
    have last : (1 < p → (numsOf t).getD 0 0 ≠ 48) → Ev (fun k => regimenref05_Places.j4 k t (p : Int) ((p : Int) == (t.size : Int) - 1)) (finv (numsOf t) p) := by
      intro h
      refine j _ ?_
      rw [beq_iff_eq]
      constructor
      · intro q
        exact .inr (.inr q)
      · rintro (q | q | q)
        · exact absurd q c
        · exact absurd q.2 (h q.1)
        · exact q
    by_cases c2 : 1 < p
    · refine evp (by omega) ?_
      refine evp (by omega) ?_
      rw [bt0]
      by_cases c3 : (numsOf t).getD 0 0 = 48
      · refine evp c3 (j true ?_)
        simp only [true_iff]
        exact .inr (.inl ⟨c2, c3⟩)
      · exact evn c3 (last (fun _ => c3))
    · exact evn (by omega) (last (fun h => absurd h c2))
/-- Behind the point: digits alone. -/
theorem ref_places_after (t : ByteArray) (ht : t.size < 1000000) (p : Nat) (hp : p < t.size) (e : Nat) : ∀ i : Nat, i + e = t.size →
    Ev (fun k => regimenref05_Places.l0 k t (p : Int) (i : Int)) (if lead ((numsOf t).drop i) = t.size - i then finv (numsOf t) p else -1) := by
  have hn := nums_len t
  induction e with
  | zero =>
    intro i h
    rw [List.drop_eq_nil_of_le (by omega), if_pos (by show 0 = _; omega), show i = t.size from by omega]
    exact ref_places_end t ht p (by omega)
  | succ e ih =>
    intro i h
    have nx := ih (i + 1) (by omega)
    have hd := drop_getD (numsOf t) i (by omega)
    have hl := lead_le ((numsOf t).drop (i + 1))
    rw [List.length_drop] at hl
    have body : Ev (fun k => regimenref05_Places.j3 k t (p : Int) (i : Int) false) (if lead ((numsOf t).drop i) = t.size - i then finv (numsOf t) p else -1) := by
      refine Ev.step (fun k => by rw [regimenref05_Places.j3]) ?_
      refine evn (by simp) ?_
      refine evp (by omega) ?_
      refine evp (by omega) ?_
      rw [bt_nums, hd, w64_succ (by omega)]
      by_cases c : (numsOf t).getD i 0 < 48
      · rw [show lead ((numsOf t).getD i 0 :: (numsOf t).drop (i + 1)) = 0 from if_neg (by unfold isDig; omega), if_neg (show ¬ 0 = t.size - i by omega)]
        exact evp c (Ev.now _)
      · refine evn c ?_
        by_cases c2 : (numsOf t).getD i 0 > 57
        · rw [show lead ((numsOf t).getD i 0 :: (numsOf t).drop (i + 1)) = 0 from if_neg (by unfold isDig; omega), if_neg (show ¬ 0 = t.size - i by omega)]
          exact evp c2 (Ev.now _)
        · refine evn c2 ?_
          rw [show lead ((numsOf t).getD i 0 :: (numsOf t).drop (i + 1)) = lead ((numsOf t).drop (i + 1)) + 1 from if_pos (by unfold isDig; omega)]
          by_cases c3 : lead ((numsOf t).drop (i + 1)) = t.size - (i + 1)
          · rw [if_pos c3] at nx
            rw [if_pos (by omega)]
            exact nx
          · rw [if_neg c3] at nx
            rw [if_neg (by omega)]
            exact nx
    refine Ev.step (fun k => by rw [regimenref05_Places.l0]) ?_
    refine evp (by omega) ?_
    refine evp (by omega) ?_
    rw [bt_nums]
    by_cases c : (numsOf t).getD i 0 = 46
    · refine evp c ?_
      rw [show ((p : Int) == (t.size : Int)) = false from by rw [beq_eq_false_iff_ne]; omega]
      exact body
    · exact evn c body
/-- Ahead of the point. -/
theorem ref_places_before (t : ByteArray) (ht : t.size < 1000000) (e : Nat) : ∀ i : Nat, i + e = lead (numsOf t) →
    Ev (fun k => regimenref05_Places.l0 k t (t.size : Int) (i : Int)) (if lead (numsOf t) = t.size then finv (numsOf t) t.size else if (numsOf t).getD (lead (numsOf t)) 0 = 46 ∧ lead ((numsOf t).drop (lead (numsOf t) + 1)) = t.size - (lead (numsOf t) + 1) then finv (numsOf t) (lead (numsOf t)) else -1) := by
  have hn := nums_len t
  have hle := lead_le (numsOf t)
  induction e with
  | zero =>
    intro i h
    obtain rfl : i = lead (numsOf t) := by omega
    by_cases c : lead (numsOf t) = t.size
    · rw [if_pos c, c]
      exact ref_places_end t ht t.size (by omega)
    · rw [if_neg c]
      have hs := lead_stop (l := numsOf t) (by omega)
      have aft := ref_places_after t ht (lead (numsOf t)) (by omega) (t.size - (lead (numsOf t) + 1)) (lead (numsOf t) + 1) (by omega)
      refine Ev.step (fun k => by rw [regimenref05_Places.l0]) ?_
      refine evp (by omega) ?_
      refine evp (by omega) ?_
      rw [bt_nums]
      by_cases c2 : (numsOf t).getD (lead (numsOf t)) 0 = 46
      · refine evp c2 ?_
        rw [show ((t.size : Int) == (t.size : Int)) = true from by simp]
        refine Ev.step (fun k => by rw [regimenref05_Places.j3]) ?_
        refine evp rfl ?_
        rw [w64_succ (by omega)]
        by_cases c3 : lead ((numsOf t).drop (lead (numsOf t) + 1)) = t.size - (lead (numsOf t) + 1)
        · rw [if_pos c3] at aft
          rw [if_pos ⟨c2, c3⟩]
          exact aft
        · rw [if_neg c3] at aft
          rw [if_neg (fun q => c3 q.2)]
          exact aft
      · rw [if_neg (fun q => c2 q.1)]
        refine evn c2 ?_
        refine Ev.step (fun k => by rw [regimenref05_Places.j3]) ?_
        refine evn (by simp) ?_
        refine evp (by omega) ?_
        refine evp (by omega) ?_
        rw [bt_nums]
        unfold isDig at hs
        by_cases c3 : (numsOf t).getD (lead (numsOf t)) 0 < 48
        · exact evp c3 (Ev.now _)
        · refine evn c3 ?_
          exact evp (by omega) (Ev.now _)
  | succ e ih =>
    intro i h
    have hd := lead_dig_at (l := numsOf t) (k := i) (by omega)
    have d0 := hd.1
    have d1 := hd.2
    have nx := ih (i + 1) (by omega)
    refine Ev.step (fun k => by rw [regimenref05_Places.l0]) ?_
    refine evp (by omega) ?_
    refine evp (by omega) ?_
    rw [bt_nums]
    refine evn (by omega) ?_
    refine Ev.step (fun k => by rw [regimenref05_Places.j3]) ?_
    refine evn (by simp) ?_
    refine evp (by omega) ?_
    refine evp (by omega) ?_
    rw [bt_nums]
    refine evn (by omega) ?_
    refine evn (by omega) ?_
    rw [w64_succ (by omega)]
    exact nx
theorem ref_places_body (t : ByteArray) (ht : t.size < 1000000) : Ev (fun k => regimenref05_Places.j1 k t) (if valid (numsOf t) then ((frac (numsOf t)).length : Int) else -1) := by
  have hn := nums_len t
  have hle := lead_le (numsOf t)
  have h := ref_places_before t ht (lead (numsOf t)) 0 (by omega)
  refine Ev.step (fun k => by rw [regimenref05_Places.j1]) ?_
  have e : (if valid (numsOf t) then ((frac (numsOf t)).length : Int) else -1) = (if lead (numsOf t) = t.size then finv (numsOf t) t.size else if (numsOf t).getD (lead (numsOf t)) 0 = 46 ∧ lead ((numsOf t).drop (lead (numsOf t) + 1)) = t.size - (lead (numsOf t) + 1) then finv (numsOf t) (lead (numsOf t)) else -1) := by
    have lF : (frac (numsOf t)).length = t.size - (lead (numsOf t) + 1) := by
      unfold frac
      rw [List.length_drop]
      omega
    have hv : valid (numsOf t) ↔ 0 < lead (numsOf t) ∧ ¬ (1 < lead (numsOf t) ∧ (numsOf t).getD 0 0 = 48) ∧ (lead (numsOf t) = t.size ∨ ((numsOf t).getD (lead (numsOf t)) 0 = 46 ∧ lead (numsOf t) + 1 < t.size ∧ lead ((numsOf t).drop (lead (numsOf t) + 1)) = t.size - (lead (numsOf t) + 1))) := by
      unfold valid tailv
      rw [hn]
    rw [lF]
    unfold finv
    rw [hn]
    generalize lead ((numsOf t).drop (lead (numsOf t) + 1)) = m at *
    generalize lead (numsOf t) = d at *
    generalize (numsOf t).getD 0 0 = z at *
    generalize (numsOf t).getD d 0 = y at *
    by_cases c : d = t.size
    · rw [if_pos c]
      by_cases c2 : 0 < d ∧ ¬ (1 < d ∧ z = 48)
      · rw [if_pos (hv.2 ⟨c2.1, c2.2, .inl c⟩), if_neg (by omega), if_pos rfl]
        omega
      · rw [if_neg (fun q => c2 ⟨(hv.1 q).1, (hv.1 q).2.1⟩), if_pos (by omega)]
    · rw [if_neg c]
      by_cases c3 : y = 46 ∧ m = t.size - (d + 1)
      · rw [if_pos c3]
        by_cases c2 : 0 < d ∧ ¬ (1 < d ∧ z = 48) ∧ d + 1 < t.size
        · rw [if_pos (hv.2 ⟨c2.1, c2.2.1, .inr ⟨c3.1, c2.2.2, c3.2⟩⟩), if_neg (by omega), if_neg c]
          omega
        · rw [if_neg (fun q => by have := hv.1 q; omega), if_pos (by omega)]
      · rw [if_neg c3, if_neg (fun q => by have := hv.1 q; omega)]
  rw [e]
  exact h
theorem ref_places_ok (s : ByteArray) (hs : s.size < 1000000) : Ev (fun k => regimenref05_Places.f k s) (plv (numsOf s)) := by
  have hn := nums_len s
  have plain := ref_places_body s hs
  unfold regimenref05_Places.f plv body isneg
  by_cases c : 0 < s.size
  · refine evp (by omega) ?_
    refine evp (by omega) ?_
    rw [bt0]
    by_cases d : (numsOf s).getD 0 0 = 45
    · rw [decide_eq_true (show 0 < (numsOf s).length ∧ _ from ⟨by omega, d⟩), if_pos rfl, show ((numsOf s).getD 0 0 == 45) = true from by simpa using d]
      refine Ev.step (fun k => by rw [regimenref05_Places.j0]) ?_
      refine evp rfl ?_
      refine evp (by omega) ?_
      have h := ref_places_body (s.extract 1 s.size) (by rw [← nums_len, nums_drop, List.length_drop]; omega)
      rw [nums_drop] at h
      exact h
    · rw [decide_eq_false (fun q => d q.2), if_neg (show ¬ (false = true) from by simp), show ((numsOf s).getD 0 0 == 45) = false from by simpa using d]
      refine Ev.step (fun k => by rw [regimenref05_Places.j0]) ?_
      refine evn (by simp) ?_
      exact plain
  · rw [decide_eq_false (fun q => by omega), if_neg (show ¬ (false = true) from by simp)]
    refine evn (by omega) ?_
    refine Ev.step (fun k => by rw [regimenref05_Places.j0]) ?_
    refine evn (by simp) ?_
    exact plain
/-! ### Tens, and what so many digits mean -/
theorem dok_one {x : Int} (h : 0 ≤ x ∧ x < 65536) : dok [x] := dok_cons h dok_nil
theorem tens_loop (n : Nat) (hn : n ≤ 100) (e : Nat) : ∀ (i : Nat) (a : List Int), i + e = n → dok a → dv a = 10 ^ i → a.length = i + 1 →
    ∃ l, Ev (fun k => regimenref05_Tens.l0 k (n : Int) a (i : Int)) l ∧ dok l ∧ dv l = 10 ^ n ∧ l.length = n + 1 := by
  induction e with
  | zero =>
    intro i a h da va la
    obtain rfl : i = n := by omega
    refine ⟨a, ?_, da, va, la⟩
    refine Ev.step (fun k => by rw [regimenref05_Tens.l0]) ?_
    exact evn (by omega) (Ev.now _)
  | succ e ih =>
    intro i a h da va la
    obtain ⟨p, hp, dp, vp, lp⟩ := times_ok a [10] da (dok_one (by omega)) (by omega) (by simp)
    obtain ⟨l, hl, r⟩ := ih (i + 1) p (by omega) dp (by rw [vp, va, Int.pow_succ]; simp [dv]) (by rw [lp, la]; simp)
    refine ⟨l, ?_, r⟩
    refine Ev.step (fun k => by rw [regimenref05_Tens.l0]) ?_
    refine evp (by omega) ?_
    refine Ev.bind hp ?_
    rw [w64_succ (by omega)]
    exact hl
theorem tens_ok (n : Nat) (hn : n ≤ 100) : ∃ l, Ev (fun k => regimenref05_Tens.f k (n : Int)) l ∧ dok l ∧ dv l = 10 ^ n ∧ l.length = n + 1 := by
  unfold regimenref05_Tens.f
  exact tens_loop n hn n 0 [1] (by omega) (dok_one (by omega)) (by simp [dv]) (by simp)
theorem read_ok5 (a : List Int) (n : Nat) (da : dok a) (hn : n ≤ 100) (la : a.length ≤ 800) : ∃ z, Ev (fun k => regimenref05_Read.f k a (n : Int)) z ∧ dok z ∧ dv z = rnd (dv a * 4294967296) (10 ^ n) ∧ z.length ≤ a.length + 40 := by
  obtain ⟨t, ht, dt, vt, lt⟩ := twos_ok 32 (by omega)
  rw [show (2 : Int) ^ (32 : Int).toNat = 4294967296 from by decide] at vt
  have lt : t.length ≤ 33 := lt
  obtain ⟨p, hp, dp, vp, lp⟩ := times_ok a t da dt (by omega) (by omega)
  obtain ⟨d, hd, dd, vd, ld⟩ := tens_ok n hn
  have hpos := ten_pos n
  obtain ⟨z, hz, dz, vz, lz⟩ := rounded_t p d dp dd (by omega) (by omega) (by omega)
  rw [vp, vt, vd] at vz
  refine ⟨z, ?_, dz, vz, by omega⟩
  unfold regimenref05_Read.f
  refine Ev.bind ht ?_
  refine Ev.bind hp ?_
  refine Ev.bind hd ?_
  exact Ev.bind hz (Ev.now _)
/-! ### The number that a decimal is read as -/
/-- The digits of a decimal, the signs left out. -/
def digs : List Int → List Int
  | [] => []
  | x :: t => if 48 ≤ x then x :: digs t else digs t
theorem digs_app (a b : List Int) : digs (a ++ b) = digs a ++ digs b := by
  induction a with
  | nil => rfl
  | cons x t ih =>
    rw [List.cons_append]
    by_cases c : 48 ≤ x
    · rw [show digs (x :: (t ++ b)) = x :: digs (t ++ b) from if_pos c, show digs (x :: t) = x :: digs t from if_pos c, ih]
      rfl
    · rw [show digs (x :: (t ++ b)) = digs (t ++ b) from if_neg c, show digs (x :: t) = digs t from if_neg c, ih]
theorem digs_dig {a : List Int} (h : ∀ x, x ∈ a → isDig x) : digs a = a := by
  induction a with
  | nil => rfl
  | cons x t ih =>
    have hx := (h x (by simp)).1
    rw [show digs (x :: t) = x :: digs t from if_pos hx, ih (fun y hy => h y (by simp [hy]))]
theorem valid_split {b : List Int} (h : valid b) : b = ahead b ++ (if lead b = b.length then [] else 46 :: frac b) := by
  have hle := lead_le b
  by_cases c : lead b = b.length
  · rw [if_pos c, List.append_nil]
    unfold ahead
    rw [c, List.take_length]
  · rw [if_neg c]
    have q : b.getD (lead b) 0 = 46 := by
      rcases h.2.2 with q | q
      · exact absurd q c
      · exact q.1
    unfold ahead frac
    rw [← q, ← drop_getD b (lead b) (by omega), List.take_append_drop]
theorem digs_valid {b : List Int} (h : valid b) : digs b = ahead b ++ frac b := by
  obtain ⟨hA, hF, _⟩ := valid_dig h
  have hle := lead_le b
  have e := valid_split h
  rw [congrArg digs e, digs_app, digs_dig hA]
  by_cases c : lead b = b.length
  · rw [if_pos c, show frac b = [] from List.drop_eq_nil_of_le (by omega)]
    rfl
  · rw [if_neg c, show digs (46 :: frac b) = digs (frac b) from if_neg (by omega), digs_dig hF]
theorem digs_body (l : List Int) : digs l = digs (body l) := by
  unfold body isneg
  by_cases c : 0 < l.length ∧ l.getD 0 0 = 45
  · rw [decide_eq_true c, if_pos rfl]
    cases l with
    | nil => rfl
    | cons x t =>
      have hx : x = 45 := c.2
      subst hx
      exact if_neg (by omega)
  · rw [decide_eq_false c, if_neg (by simp)]
theorem ref_get_loop (s : ByteArray) (hs : s.size ≤ 60) (hb : ∀ x, x ∈ numsOf s → x ≤ 57) (hs0 : 0 < s.size) (n : Nat) (hn : n ≤ 19) (e : Nat) : ∀ (i : Nat) (a : List Int), i + e = s.size → dok a → a.length ≤ 1 + 2 * i →
    Ev (fun k => regimenref05_Get.l0 k s (n : Int) a (i : Int)) (if (sgn (rnd (valf (dv a) (digs ((numsOf s).drop i)) * 4294967296) (10 ^ n)) (isneg (numsOf s))).2 = 0 then ((sgn (rnd (valf (dv a) (digs ((numsOf s).drop i)) * 4294967296) (10 ^ n)) (isneg (numsOf s))).1, 0) else (0, 3)) := by
  have hl := nums_len s
  induction e with
  | zero =>
    intro i a h da la
    have hdrop : (numsOf s).drop i = [] := List.drop_eq_nil_of_le (by omega)
    rw [hdrop, show valf (dv a) (digs []) = dv a from rfl]
    obtain ⟨z, hz, dz, vz, lz⟩ := read_ok5 a n da (by omega) (by omega)
    have hs2 := ref_signed_ok z dz (by omega) (isneg (numsOf s))
    rw [vz] at hs2
    have hbq : (bt s 0 == 45) = isneg (numsOf s) := by
      rw [bt0]
      unfold isneg
      rw [Bool.eq_iff_iff, beq_iff_eq, decide_eq_true_iff]
      exact ⟨fun q => ⟨by omega, q⟩, fun q => q.2⟩
    refine Ev.step (fun k => by rw [regimenref05_Get.l0]) ?_
    refine evn (by omega) ?_
    refine Ev.bind hz ?_
    refine evp (by omega) ?_
    rw [hbq]
    refine Ev.bind hs2 ?_
    by_cases c : (sgn (rnd (dv a * 4294967296) (10 ^ n)) (isneg (numsOf s))).2 = 0
    · refine evp c ?_
      rw [if_pos c]
      exact Ev.now _
    · refine evn c ?_
      rw [if_neg c]
      exact Ev.now _
  | succ e ih =>
    intro i a h da la
    have hi : i < (numsOf s).length := by omega
    have hbi : (numsOf s).getD i 0 ≤ 57 := hb _ (by rw [List.getD_eq_getElem?_getD, List.getElem?_eq_getElem hi]; exact List.getElem_mem hi)
    rw [drop_getD _ _ hi]
    refine Ev.step (fun k => by rw [regimenref05_Get.l0]) ?_
    refine evp (by omega) ?_
    refine evp (by omega) ?_
    rw [bt_nums, w64_succ (by omega)]
    by_cases c : (numsOf s).getD i 0 ≥ 48
    · have hv : (numsOf s).getD i 0 - 48 < 10 := by omega
      obtain ⟨p, hp, dp, vp, lp⟩ := times_ok a [10] da (dok_one (by omega)) (by omega) (by simp)
      have lp : p.length = a.length + 1 := lp
      obtain ⟨q, hq, dq, vq, lq⟩ := plus_ok p [(numsOf s).getD i 0 - 48] dp (dok_one (by omega)) (a.length + 1) (by omega) (by simp) (by omega)
      have vq2 : dv q = 10 * dv a + ((numsOf s).getD i 0 - 48) := by
        rw [vq, vp]
        simp only [dv]
        omega
      have nx := ih (i + 1) q (by omega) dq (by omega)
      rw [vq2] at nx
      rw [show digs ((numsOf s).getD i 0 :: (numsOf s).drop (i + 1)) = (numsOf s).getD i 0 :: digs ((numsOf s).drop (i + 1)) from if_pos (by omega), valf_cons]
      refine evp c ?_
      refine Ev.bind hp ?_
      rw [show ((numsOf s).getD i 0 - 48) % 256 = (numsOf s).getD i 0 - 48 from by omega]
      exact Ev.bind hq nx
    · have nx := ih (i + 1) a (by omega) da (by omega)
      rw [show digs ((numsOf s).getD i 0 :: (numsOf s).drop (i + 1)) = digs ((numsOf s).drop (i + 1)) from if_neg (by omega)]
      exact evn c nx
theorem body_size {l : List Int} (h : valid (body l)) : 0 < l.length := by
  have h1 := h.1
  have h2 := lead_le (body l)
  rcases Nat.eq_zero_or_pos l.length with c | c
  · have : l = [] := List.length_eq_zero_iff.1 c
    rw [this] at h1
    exact absurd h1 (by decide)
  · exact c
theorem valid_small {l : List Int} (h : valid (body l)) : ∀ x, x ∈ l → x ≤ 57 := by
  obtain ⟨hA, hF, _⟩ := valid_dig h
  have e := valid_split h
  have hb : ∀ x, x ∈ body l → x ≤ 57 := by
    intro x hx
    rw [e] at hx
    rcases List.mem_append.1 hx with q | q
    · exact (hA x q).2
    · by_cases c : lead (body l) = (body l).length
      · rw [if_pos c] at q
        cases q
      · rw [if_neg c] at q
        rcases List.mem_cons.1 q with q | q
        · omega
        · exact (hF x q).2
  intro x hx
  unfold body isneg at hb
  by_cases c : 0 < l.length ∧ l.getD 0 0 = 45
  · rw [decide_eq_true c, if_pos rfl] at hb
    cases l with
    | nil => cases hx
    | cons y t =>
      have hy : y = 45 := c.2
      rcases List.mem_cons.1 hx with q | q
      · omega
      · exact hb x q
  · rw [decide_eq_false c, if_neg (by simp)] at hb
    exact hb x hx
theorem ref_dec_get_ok (s : ByteArray) (hs : s.size ≤ 60) : Ev (fun k => regimenref05_Get.f k s) (decv (numsOf s)) := by
  have hl := nums_len s
  have hp := ref_places_ok s (by omega)
  unfold regimenref05_Get.f
  unfold plv at hp
  by_cases c : valid (body (numsOf s))
  · rw [if_pos c] at hp
    refine Ev.bind hp ?_
    refine evn (by omega) ?_
    by_cases c2 : (frac (body (numsOf s))).length > 19
    · unfold decv
      rw [if_pos c, if_pos c2]
      exact evp (by omega) (Ev.now _)
    · refine evn (by omega) ?_
      have g := ref_get_loop s hs (valid_small c) (by have := body_size c; omega) (frac (body (numsOf s))).length (by omega) s.size 0 [0] (by omega) (dok_one (by omega)) (by simp)
      rw [List.drop_zero, show dv [0] = 0 from by simp [dv], digs_body, digs_valid c] at g
      unfold decv mag
      rw [if_pos c, if_neg c2]
      exact g
  · rw [if_neg c] at hp
    refine Ev.bind hp ?_
    unfold decv
    rw [if_neg c]
    exact evp (by omega) (Ev.now _)
end Go.Proofs.Ytemmnjnihngjgaa.Num
