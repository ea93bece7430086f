/- Numbers as decimals (layer 5): the program's, by value. -/
import Derived.Test.YtemmnjnihngjgaaPDx0
import Derived.Test.YtemmnjnihngjgaaPDx2
import Derived.Test.YtemmnjnihngjgaaPDx4
import Derived.Test.YtemmnjnihngjgaaPDx5
import Derived.Test.YtemmnjnihngjgaaDDecV
namespace Go.Proofs.Ytemmnjnihngjgaa.Num
set_option linter.unusedVariables false
set_option linter.unusedSimpArgs false
open Go.RowKit Go.Proofs.Ytemmnjnihngjgaa.PD Go.Proofs.YtemmnjnihngjgaaW.PrintWords Go.Proofs.YtemmnjnihngjgaaW.PrintMore

/-! ### The parts of a decimal -/
def isneg (l : List Int) : Bool := decide (0 < l.length ∧ l.getD 0 0 = 45)
def body (l : List Int) : List Int := if isneg l = true then l.drop 1 else l
def tailv (b : List Int) : Prop := lead b = b.length ∨ (b.getD (lead b) 0 = 46 ∧ lead b + 1 < b.length ∧ lead (b.drop (lead b + 1)) = b.length - (lead b + 1))
instance (b : List Int) : Decidable (tailv b) := by unfold tailv; infer_instance
def valid (b : List Int) : Prop := 0 < lead b ∧ ¬ (1 < lead b ∧ b.getD 0 0 = 48) ∧ tailv b
instance (b : List Int) : Decidable (valid b) := by unfold valid; infer_instance
def ahead (b : List Int) : List Int := b.take (lead b)
def frac (b : List Int) : List Int := b.drop (lead b + 1)
theorem drop_get (l : List Int) (p q : Nat) : (l.drop p).getD q 0 = l.getD (p + q) 0 := by
  rw [List.getD_eq_getElem?_getD, List.getD_eq_getElem?_getD, List.getElem?_drop]
theorem cut_ok (s : ByteArray) (c : UInt8) : strings_CutPrefix.f s ⟨#[c]⟩ = some (if 0 < s.size ∧ (numsOf s).getD 0 0 = (c.toNat : Int) then (s.extract 1 s.size, true) else (s, false)) := by
  have hc : (⟨#[c]⟩ : ByteArray).size = 1 := rfl
  unfold strings_CutPrefix.f stringslite_CutPrefix.f stringslite_HasPrefix.f
  rw [hc]
  by_cases h : 0 < s.size
  · rw [if_pos (by omega), if_pos (by omega), if_pos (by omega), Option.bind_some]
    have e : ((s.extract 0 (((1 : Nat) : Int)).toNat).toList == (⟨#[c]⟩ : ByteArray).toList) = decide ((numsOf s).getD 0 0 = (c.toNat : Int)) := by
      rw [ByteArray.toList_eq, ByteArray.toList_eq, ByteArray.data_extract, Array.toList_extract, List.extract_eq_take_drop]
      unfold numsOf
      have hs : 0 < s.data.toList.length := by rw [Array.length_toList]; exact h
      cases hl : s.data.toList with
      | nil => rw [hl] at hs; simp at hs
      | cons x t =>
        show ([x] == [c]) = decide (((x.toNat : Nat) : Int) = ((c.toNat : Nat) : Int))
        rw [Bool.eq_iff_iff, beq_iff_eq, decide_eq_true_iff]
        constructor
        · intro h
          rw [List.cons.inj h |>.1]
        · intro h
          have : x = c := UInt8.toNat_inj.1 (by omega)
          rw [this]
    rw [e]
    by_cases d : (numsOf s).getD 0 0 = (c.toNat : Int)
    · rw [if_pos (by simpa using d), if_pos (by omega), if_pos (by omega), if_pos ⟨h, d⟩]
      rfl
    · rw [if_neg (by simpa using d), if_neg (fun q => d q.2)]
      rfl
  · have e : ¬ (0 < s.size ∧ (numsOf s).getD 0 0 = (c.toNat : Int)) := fun q => h q.1
    rw [if_neg e, if_neg (by omega)]
    rfl
theorem str_nil : strOfNums [] = (⟨#[]⟩ : ByteArray) := rfl
theorem parted_j0 (neg : Bool) (t : ByteArray) (ht : t.size < 1000000) :
    Ev (fun k => dec_parted.j0 k neg (t.extract 0 (lead (numsOf t))) (t.extract (lead (numsOf t)) t.size) false) (if tailv (numsOf t) then (neg, strOfNums (ahead (numsOf t)), strOfNums (frac (numsOf t)), true) else (false, (⟨#[]⟩ : ByteArray), (⟨#[]⟩ : ByteArray), false)) := by
  have hn := nums_len t
  have hle := lead_le (numsOf t)
  have eA : t.extract 0 (lead (numsOf t)) = strOfNums (ahead (numsOf t)) := by
    rw [← str_nums (t.extract 0 (lead (numsOf t))), nums_take]
    rfl
  have eR := nums_drop t (lead (numsOf t))
  have lR : (t.extract (lead (numsOf t)) t.size).size = t.size - lead (numsOf t) := by
    rw [← nums_len, eR, List.length_drop]
    omega
  rw [eA]
  generalize hb : numsOf t = b at *
  generalize hR : t.extract (lead b) t.size = R at *
  refine Ev.step (fun k => by rw [dec_parted.j0]) ?_
  refine evn (by simp) ?_
  by_cases c1 : lead b = b.length
  · rw [if_pos (.inl c1)]
    refine evp ((toList_nil R).2 (by rw [eR, List.drop_eq_nil_of_le (by omega)])) ?_
    rw [show frac b = [] from List.drop_eq_nil_of_le (by omega), str_nil]
    exact Ev.now _
  · refine evn (fun h => ?_) ?_
    · have := (toList_nil R).1 h
      rw [eR, List.drop_eq_nil_iff] at this
      omega
    refine evs (cut_ok R 46) ?_
    rw [eR, drop_get, Nat.add_zero, show ((46 : UInt8).toNat : Int) = 46 from rfl]
    by_cases c2 : b.getD (lead b) 0 = 46
    · rw [if_pos ⟨by omega, c2⟩]
      refine evp rfl ?_
      have eF : numsOf (R.extract 1 R.size) = frac b := by
        rw [nums_drop, eR, List.drop_drop]
        rfl
      have lF : (R.extract 1 R.size).size = b.length - (lead b + 1) := by
        rw [← nums_len, eF]
        unfold frac
        rw [List.length_drop]
      by_cases c3 : lead b + 1 < b.length
      · refine evn (fun h => ?_) ?_
        · have := (toList_nil _).1 h
          rw [eF] at this
          unfold frac at this
          rw [List.drop_eq_nil_iff] at this
          omega
        have hF0 := lead_ok (R.extract 1 R.size) (by omega)
        rw [eF] at hF0
        refine Ev.bind hF0 ?_
        dsimp only
        rw [lF]
        have lle := lead_le (frac b)
        unfold frac at lle
        rw [List.length_drop] at lle
        by_cases c4 : lead (b.drop (lead b + 1)) = b.length - (lead b + 1)
        · rw [if_pos (show tailv b from .inr ⟨c2, c3, c4⟩)]
          refine evn (by show ¬ ((lead (b.drop (lead b + 1)) : Int) < _); omega) ?_
          have : R.extract 1 R.size = strOfNums (frac b) := by rw [← eF, str_nums]
          rw [this]
          exact Ev.now _
        · rw [if_neg (show ¬ tailv b from by unfold tailv; omega)]
          refine evp (by show ((lead (b.drop (lead b + 1)) : Int) < _); omega) ?_
          exact Ev.now _
      · rw [if_neg (show ¬ tailv b from by unfold tailv; omega)]
        refine evp ((toList_nil _).2 (by rw [eF]; exact List.drop_eq_nil_of_le (by omega))) ?_
        exact Ev.now _
    · rw [if_neg (fun h => c2 h.2), if_neg (by unfold tailv; omega)]
      refine evn (by simp) ?_
      exact Ev.now _
theorem parted_ok (s : ByteArray) (hs : s.size < 1000000) :
    Ev (fun k => dec_parted.f k s) (if valid (body (numsOf s)) then (isneg (numsOf s), strOfNums (ahead (body (numsOf s))), strOfNums (frac (body (numsOf s))), true) else (false, (⟨#[]⟩ : ByteArray), (⟨#[]⟩ : ByteArray), false)) := by
  have hn := nums_len s
  obtain ⟨t, ht, et, hz⟩ : ∃ t, strings_CutPrefix.f s ⟨#[45]⟩ = some (t, isneg (numsOf s)) ∧ numsOf t = body (numsOf s) ∧ t.size ≤ s.size := by
    have h := cut_ok s 45
    rw [show ((45 : UInt8).toNat : Int) = 45 from rfl] at h
    unfold body isneg
    by_cases c : 0 < s.size ∧ (numsOf s).getD 0 0 = 45
    · rw [if_pos c] at h
      rw [decide_eq_true (show 0 < (numsOf s).length ∧ _ from ⟨by omega, c.2⟩), if_pos rfl]
      refine ⟨_, h, nums_drop s 1, ?_⟩
      rw [← nums_len, nums_drop, List.length_drop]
      omega
    · rw [if_neg c] at h
      rw [decide_eq_false (fun q => c ⟨by omega, q.2⟩), if_neg (by simp)]
      exact ⟨_, h, rfl, Nat.le_refl _⟩
  rw [← et]
  have hnt := nums_len t
  have hle := lead_le (numsOf t)
  have bad : Ev (fun k => dec_parted.j0 k (isneg (numsOf s)) (t.extract 0 (lead (numsOf t))) (t.extract (lead (numsOf t)) t.size) true) (false, (⟨#[]⟩ : ByteArray), (⟨#[]⟩ : ByteArray), false) := by
    refine Ev.step (fun k => by rw [dec_parted.j0]) ?_
    exact evp rfl (Ev.now _)
  have good := parted_j0 (isneg (numsOf s)) t (by omega)
  unfold dec_parted.f
  refine evs ht ?_
  refine Ev.bind (lead_ok t (by omega)) ?_
  refine evp (by omega) ?_
  refine evp (by show (lead (numsOf t) : Int) ≤ (t.size : Int); omega) ?_
  rw [Int.toNat_natCast]
  by_cases c1 : lead (numsOf t) = 0
  · rw [if_neg (fun h => by have := h.1; omega)]
    exact evp (by omega) bad
  · refine evn (by omega) ?_
    by_cases c2 : 1 < lead (numsOf t)
    · refine evp (by omega) ?_
      refine evp (by show (0 : Int) < (t.size : Int); omega) ?_
      rw [bt0]
      by_cases c3 : (numsOf t).getD 0 0 = 48
      · rw [if_neg (fun h => h.2.1 ⟨c2, c3⟩), show ((numsOf t).getD 0 0 == 48) = true from by simpa using c3]
        exact bad
      · rw [show ((numsOf t).getD 0 0 == 48) = false from by simpa using c3]
        by_cases c4 : tailv (numsOf t)
        · rw [if_pos c4] at good
          rw [if_pos ⟨by omega, fun h => c3 h.2, c4⟩]
          exact good
        · rw [if_neg c4] at good
          rw [if_neg (fun h => c4 h.2.2)]
          exact good
    · refine evn (by omega) ?_
      by_cases c4 : tailv (numsOf t)
      · rw [if_pos c4] at good
        rw [if_pos ⟨by omega, fun h => c2 h.1, c4⟩]
        exact good
      · rw [if_neg c4] at good
        rw [if_neg (fun h => c4 h.2.2)]
        exact good
theorem lead_dig (l : List Int) : ∀ x, x ∈ l.take (lead l) → isDig x := by
  induction l with
  | nil => intro x h; cases h
  | cons y t ih =>
    intro x h
    unfold lead at h
    by_cases c : isDig y
    · rw [if_pos c, List.take_succ_cons] at h
      rcases List.mem_cons.1 h with rfl | h
      · exact c
      · exact ih x h
    · rw [if_neg c] at h
      cases h
theorem valid_dig {b : List Int} (h : valid b) : (∀ x, x ∈ ahead b → isDig x) ∧ (∀ x, x ∈ frac b → isDig x) ∧ (ahead b).length = lead b := by
  refine ⟨lead_dig b, ?_, ?_⟩
  · rcases h.2.2 with q | q
    · have : frac b = [] := List.drop_eq_nil_of_le (by omega)
      rw [this]
      intro x hx
      cases hx
    · refine (lead_all _).1 ?_
      unfold frac
      rw [q.2.2, List.length_drop]
  · unfold ahead
    rw [List.length_take]
    exact Nat.min_eq_left (lead_le b)
/-! ### What digits mean -/
theorem ten19 : (10 : Int) ^ 19 = 10000000000000000000 := by decide
theorem dig_nums {l : List Int} (h : ∀ x, x ∈ l → isDig x) : numsOf (strOfNums l) = l := nums_str fun x hx => by
  have := h x hx
  unfold isDig at this
  omega
theorem count_loop (l : List Int) (hl : l.length ≤ 19) (hd : ∀ x, x ∈ l → isDig x) (e : Nat) : ∀ (i : Nat) (a : Int), i + e = l.length → 0 ≤ a → a < 10 ^ i →
    Ev (fun k => dec_count.l0 k a l (l.length : Int) (i : Int)) (valf a (l.drop i)) := by
  induction e with
  | zero =>
    intro i a h h0 h1
    refine Ev.step (fun k => by rw [dec_count.l0]) ?_
    refine evn (by omega) ?_
    rw [List.drop_eq_nil_of_le (by omega), show valf a [] = a from rfl]
    exact Ev.now _
  | succ e ih =>
    intro i a h h0 h1
    have hi : i < l.length := by omega
    have hx : isDig (l.getD i 0) := hd _ (by rw [List.getD_eq_getElem?_getD, List.getElem?_eq_getElem hi]; exact List.getElem_mem hi)
    have x0 := hx.1
    have x1 := hx.2
    have hm := ten_mono (m := i + 1) (n := 19) (by omega)
    have hp : (10 : Int) ^ (i + 1) = 10 ^ i * 10 := Int.pow_succ ..
    rw [ten19] at hm
    refine Ev.step (fun k => by rw [dec_count.l0]) ?_
    refine evp (by omega) ?_
    refine evp (by omega) ?_
    refine evp (by omega) ?_
    rw [rd_nat, drop_getD _ _ hi, valf_cons, show (l.getD i 0 - 48) % 256 = l.getD i 0 - 48 from by omega, u64_id (x := 10 * a) (by omega) (by omega), u64_id (x := 10 * a + (l.getD i 0 - 48)) (by omega) (by omega), w64_succ (by omega)]
    exact ih (i + 1) _ (by omega) (by omega) (by omega)
theorem count_ok {l : List Int} (hl : l.length ≤ 19) (hd : ∀ x, x ∈ l → isDig x) : Ev (fun k => dec_count.f k (strOfNums l)) (valf 0 l) := by
  unfold dec_count.f
  refine evp (by rw [strOfNums_size]; omega) ?_
  unfold dec_count.g
  rw [dig_nums hd]
  have := count_loop l hl hd l.length 0 0 (by omega) (by omega) (by simp)
  rw [List.drop_zero] at this
  exact this
theorem power_loop (n : Nat) (hn : n ≤ 19) (e : Nat) : ∀ i : Nat, i + e = n → Ev (fun k => dec_power.l0 k (10 ^ i) (n : Int) (i : Int)) (10 ^ n) := by
  induction e with
  | zero =>
    intro i h
    refine Ev.step (fun k => by rw [dec_power.l0]) ?_
    refine evn (by omega) ?_
    rw [show i = n from by omega]
    exact Ev.now _
  | succ e ih =>
    intro i h
    have hm := ten_mono (m := i + 1) (n := 19) (by omega)
    have hp : (10 : Int) ^ (i + 1) = 10 ^ i * 10 := Int.pow_succ ..
    have p := ten_pos i
    rw [ten19] at hm
    refine Ev.step (fun k => by rw [dec_power.l0]) ?_
    refine evp (by omega) ?_
    rw [← hp, u64_id (by omega) (by omega), w64_succ (by omega)]
    exact ih (i + 1) (by omega)
theorem power_ok (n : Nat) (hn : n ≤ 19) : Ev (fun k => dec_power.f k (n : Int)) (10 ^ n) := by
  unfold dec_power.f
  exact power_loop n hn n 0 (by omega)
theorem fraction_ok {D : Int} (n : Nat) (hn : n ≤ 19) (h0 : 0 ≤ D) (h1 : D ≤ 10 ^ n) : Ev (fun k => dec_fraction.f k D (n : Int)) (rnd (D * 4294967296) (10 ^ n)) := by
  have hm := ten_mono hn
  rw [ten19] at hm
  have hp := ten_pos n
  have hs := pair_shl_ok (a0 := 0) (a1 := D) 32 (by omega) (by omega)
  rw [show held 32 = 32 from rfl, show (2 : Int) ^ 32 = 4294967296 from by decide, Int.mul_zero, Int.add_zero] at hs
  have hN := half_near_ok (hi := D * 4294967296 / 18446744073709551616 % 18446744073709551616) (lo := D * 4294967296 % 18446744073709551616) (d := 10 ^ n) (by omega) (by omega) (by omega) (by omega) (by omega) (by omega)
  rw [show D * 4294967296 % 18446744073709551616 + 18446744073709551616 * (D * 4294967296 / 18446744073709551616 % 18446744073709551616) = D * 4294967296 from by omega] at hN
  have hr := rnd_le (V := D * 4294967296) (d := 10 ^ n) (q := 4294967296) hp (by omega)
  unfold near at hN
  rw [if_neg (by omega), if_pos (by omega)] at hN
  unfold dec_fraction.f
  refine evs hs ?_
  refine Ev.bind (power_ok n hn) ?_
  refine Ev.bind hN ?_
  exact Ev.now _
/-- Which number a decimal is read as; what is told. -/
def mag (b : List Int) : Int := rnd (valf 0 (ahead b ++ frac b) * 4294967296) (10 ^ (frac b).length)
def decv (l : List Int) : Int × Int := if valid (body l) then (if (frac (body l)).length > 19 then (0, 6) else if (sgn (mag (body l)) (isneg l)).2 = 0 then ((sgn (mag (body l)) (isneg l)).1, 0) else (0, 3)) else (0, 2)
def plv (l : List Int) : Int := if valid (body l) then ((frac (body l)).length : Int) else -1
theorem mag_eq {b : List Int} (h : valid b) : mag b = valf 0 (ahead b) * 4294967296 + rnd (valf 0 (frac b) * 4294967296) (10 ^ (frac b).length) := by
  unfold mag
  rw [valf_join]
  rw [show (valf 0 (ahead b) * 10 ^ (frac b).length + valf 0 (frac b)) * 4294967296 = (valf 0 (ahead b) * 4294967296) * 10 ^ (frac b).length + valf 0 (frac b) * 4294967296 from by
    rw [Int.add_mul, Int.mul_assoc, Int.mul_assoc, Int.mul_comm (10 ^ (frac b).length)]]
  exact rnd_shift _ (ten_pos _) (by omega)
theorem mag_frac {b : List Int} (h : valid b) : 0 ≤ rnd (valf 0 (frac b) * 4294967296) (10 ^ (frac b).length) ∧ rnd (valf 0 (frac b) * 4294967296) (10 ^ (frac b).length) ≤ 4294967296 := by
  have hF := valf_bd (valid_dig h).2.1
  exact ⟨rnd_nonneg (by omega) (ten_pos _), rnd_le (ten_pos _) (by omega)⟩
theorem sgn_fail {u : Int} (b : Bool) (h : 9223372036854775808 < u) : (sgn u b).2 ≠ 0 := by
  unfold sgn
  cases b
  · rw [if_neg (by simp), if_neg (by omega)]
    decide
  · rw [if_pos rfl, if_neg (by omega)]
    decide
theorem ahead_big {b : List Int} (h : valid b) (hl : 10 < lead b) : 10000000000 ≤ valf 0 (ahead b) := by
  obtain ⟨hd, _, hn⟩ := valid_dig h
  have hz : (ahead b).getD 0 0 ≠ 48 := by
    intro e
    refine h.2.1 ⟨by omega, ?_⟩
    unfold ahead at e
    rwa [List.getD_eq_getElem?_getD, List.getElem?_take_of_lt (by omega), ← List.getD_eq_getElem?_getD] at e
  generalize ahead b = l at *
  cases l with
  | nil => simp at hn; omega
  | cons x t =>
    have hx := hd x (by simp)
    have x0 := hx.1
    have hz : x ≠ 48 := hz
    have g := valf_ge (l := t) (fun y hy => hd y (by simp [hy])) (a := 10 * 0 + (x - 48)) (by omega)
    have p := ten_mono (m := 10) (n := t.length) (by simp at hn; omega)
    have q : 1 * (10 : Int) ^ t.length ≤ (10 * 0 + (x - 48)) * 10 ^ t.length := Int.mul_le_mul_of_nonneg_right (by omega) (Int.le_of_lt (ten_pos _))
    have e10 : (10 : Int) ^ 10 = 10000000000 := by decide
    rw [valf_cons]
    omega
theorem dec_get_ok (s : ByteArray) (hs : s.size < 1000000) : Ev (fun k => dec_Get.f k s) (decv (numsOf s)) := by
  have hp := parted_ok s hs
  unfold dec_Get.f decv
  by_cases c : valid (body (numsOf s))
  · rw [if_pos c] at hp
    rw [if_pos c]
    obtain ⟨hA, hF, hn⟩ := valid_dig c
    have eq := mag_eq c
    have hr := mag_frac c
    have bA := valf_bd hA
    have bF := valf_bd hF
    refine Ev.bind hp ?_
    refine evp rfl ?_
    dsimp only
    rw [strOfNums_size, strOfNums_size]
    by_cases c2 : (frac (body (numsOf s))).length > 19
    · rw [if_pos c2]
      exact evp (by omega) (Ev.now _)
    · rw [if_neg c2]
      refine evn (by omega) ?_
      by_cases c3 : 10 < lead (body (numsOf s))
      · have := ahead_big c c3
        rw [if_neg (sgn_fail _ (by omega))]
        exact evp (by omega) (Ev.now _)
      · refine evn (by omega) ?_
        have hc := count_ok (l := ahead (body (numsOf s))) (by omega) hA
        refine Ev.bind hc ?_
        by_cases c4 : valf 0 (ahead (body (numsOf s))) > 2147483648
        · rw [if_neg (sgn_fail _ (by omega))]
          exact evp c4 (Ev.now _)
        · refine evn c4 ?_
          refine Ev.bind hc ?_
          refine Ev.bind (count_ok (by omega) hF) ?_
          refine Ev.bind (fraction_ok _ (by omega) bF.1 (by omega)) ?_
          rw [u64_id (x := valf 0 (ahead (body (numsOf s))) * 4294967296) (by omega) (by omega), ← eq, u64_id (x := mag (body (numsOf s))) (by omega) (by omega)]
          refine Ev.bind (fix_signed_ok _ (by omega) (by omega)) ?_
          by_cases c5 : (sgn (mag (body (numsOf s))) (isneg (numsOf s))).2 = 0
          · refine evp c5 ?_
            rw [if_pos c5]
            exact Ev.now _
          · refine evn c5 ?_
            rw [if_neg c5]
            exact Ev.now _
  · rw [if_neg c] at hp
    rw [if_neg c]
    refine Ev.bind hp ?_
    exact evn (by simp) (Ev.now _)
theorem places_ok (s : ByteArray) (hs : s.size < 1000000) : Ev (fun k => dec_Places.f k s) (if plv (numsOf s) < 0 then 0 else plv (numsOf s)) := by
  have hp := parted_ok s hs
  unfold dec_Places.f plv
  by_cases c : valid (body (numsOf s))
  · rw [if_pos c] at hp
    rw [if_pos c, if_neg (by omega)]
    refine Ev.bind hp ?_
    dsimp only
    rw [strOfNums_size]
    exact Ev.now _
  · rw [if_neg c] at hp
    rw [if_neg c]
    refine Ev.bind hp ?_
    exact Ev.now _
end Go.Proofs.Ytemmnjnihngjgaa.Num
