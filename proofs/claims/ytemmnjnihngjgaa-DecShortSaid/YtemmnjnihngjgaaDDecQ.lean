/- Numbers as decimals (layer 5): a number's own decimal, the program's and the reference's, by value. -/
import Derived.Test.YtemmnjnihngjgaaPDx0
import Derived.Test.YtemmnjnihngjgaaPDx5
import Derived.Test.YtemmnjnihngjgaaPDx6
import Derived.Test.YtemmnjnihngjgaaDDecR
namespace Go.Proofs.Ytemmnjnihngjgaa.Num
set_option linter.unusedVariables false
set_option linter.unusedSimpArgs false
open Go.RowKit Go.Proofs.Ytemmnjnihngjgaa.PD Go.Proofs.YtemmnjnihngjgaaW.PrintWords Go.Proofs.YtemmnjnihngjgaaW.PrintMore

/-- The nearest decimal of n digits, and whether it is read as the fraction. -/
def nd (f : Int) (n : Nat) : Int := rnd (f * 10 ^ n) 4294967296
def isback (f : Int) (n : Nat) : Prop := rnd (nd f n * 4294967296) (10 ^ n) = f
def fewest (f : Int) (n : Nat) : Prop := n ≤ 10 ∧ isback f n ∧ ∀ j, j < n → ¬ isback f j
theorem nd_le {f : Int} (n : Nat) (h0 : 0 ≤ f) (h1 : f < 4294967296) : 0 ≤ nd f n ∧ nd f n ≤ 10 ^ n := by
  have p := ten_pos n
  refine ⟨rnd_nonneg (Int.mul_nonneg h0 (by omega)) (by omega), rnd_le (by omega) ?_⟩
  rw [Int.mul_comm]
  exact Int.mul_le_mul_of_nonneg_left (by omega) (by omega)
theorem nd_lt {f : Int} {n : Nat} (h0 : 0 ≤ f) (h1 : f < 4294967296) (h : isback f n) : nd f n < 10 ^ n := by
  have b := nd_le n h0 h1
  have p := ten_pos n
  rcases Int.lt_or_le (nd f n) (10 ^ n) with c | c
  · exact c
  · exfalso
    have e : nd f n = 10 ^ n := by omega
    unfold isback at h
    rw [e, Int.mul_comm, rnd_exact _ p] at h
    omega
theorem isback_ten (f : Int) : isback f 10 := by
  have := short_ten f
  unfold isback nd
  rw [show (10 : Int) ^ 10 = 10000000000 from by decide]
  exact this
theorem isback_zero {f : Int} (h0 : 0 ≤ f) (h1 : f < 4294967296) : isback f 0 ↔ f = 0 := by
  have b := nd_le 0 h0 h1
  have e := rnd_exact (nd f 0 * 4294967296) (d := 1) (by omega)
  rw [Int.mul_one] at e
  have p0 : (10 : Int) ^ 0 = 1 := rfl
  unfold isback
  rw [p0] at *
  rw [e]
  constructor
  · intro h
    omega
  · intro h
    subst h
    have : nd 0 0 = 0 := by
      unfold nd
      rw [Int.zero_mul]
      rfl
    rw [this]
    rfl
theorem fewest_ex {f : Int} : ∃ n, fewest f n := by
  have key : ∀ d i : Nat, i + d = 10 → (∀ j, j < i → ¬ isback f j) → ∃ n, fewest f n := by
    intro d
    induction d with
    | zero =>
      intro i h hj
      obtain rfl : i = 10 := by omega
      exact ⟨10, by omega, isback_ten f, hj⟩
    | succ d ih =>
      intro i h hj
      rcases Classical.em (isback f i) with c | c
      · exact ⟨i, by omega, c, hj⟩
      · refine ih (i + 1) (by omega) fun j hji => ?_
        rcases Nat.lt_or_ge j i with q | q
        · exact hj j q
        · obtain rfl : j = i := by omega
          exact c
  exact key 10 0 (by omega) (fun j h => by omega)
theorem fewest_le {f : Int} {m n : Nat} (h : fewest f m) (hn : isback f n) : m ≤ n := by
  rcases Nat.lt_or_ge n m with c | c
  · exact absurd hn (h.2.2 n c)
  · exact c
/-- A number's decimal, of n digits behind the point. -/
def putl (x : Int) (n : Nat) : List Int := (if x < 0 then [45] else []) ++ (tell (iabs x / 4294967296) ++ (if n = 0 then [] else 46 :: padn n (nd (iabs x % 4294967296) n)))
theorem rep_str (n : Nat) : (⟨(List.replicate n (48 : UInt8)).toArray⟩ : ByteArray) = strOfNums (List.replicate n 48) := by
  unfold strOfNums
  rw [List.map_replicate]
  rfl
theorem zeros_ok {c : Int} (h0 : 0 ≤ c) (h1 : c ≤ 200) : strings_Repeat.f ⟨#[48]⟩ c = some (strOfNums (List.replicate c.toNat 48)) := by
  unfold strings_Repeat.f
  rw [if_pos ⟨h0, by omega, by show 1 * c.toNat ≤ _; omega⟩]
  have := Lib.repeatL_replicate 48 1 c.toNat
  rw [Nat.mul_one] at this
  rw [← rep_str, ← this]
  rfl
theorem tellv_pos {u : Int} (h : 0 ≤ u) : tellv u = strOfNums (tell u) := by
  unfold tellv
  rw [if_neg (by omega)]
  rfl
theorem behind_loop {f : Int} {n : Nat} (h0 : 0 < f) (h1 : f < 4294967296) (hf : fewest f n) (e : Nat) : ∀ i : Nat, i + e = n → 0 < i → Ev (fun k => dec_behind.l0 k f (i : Int)) (strOfNums (padn n (nd f n))) := by
  have h10 := hf.1
  have one : ∀ i : Nat, 0 < i → i ≤ 10 → ∀ {R : ByteArray}, (isback f i → i = n ∧ R = strOfNums (padn n (nd f n))) → (¬ isback f i → Ev (fun k => dec_behind.l0 k f ((i + 1 : Nat) : Int)) R) → Ev (fun k => dec_behind.l0 k f (i : Int)) R := by
    intro i hi0 hi R hb hnb
    have hm := ten_mono (m := i) (n := 19) (by omega)
    have hm10 := ten_mono (m := i) (n := 10) (by omega)
    have e10 : (10 : Int) ^ 10 = 10000000000 := by decide
    rw [ten19] at hm
    have p := ten_pos i
    have bd := nd_le i (Int.le_of_lt h0) h1
    have hmul := pair_mul_ok (x := f) (y := 10 ^ i) (by omega) (by omega) (by omega) (by omega)
    have hp := mul_bd (x := f) (y := 10 ^ i) (M := 4294967295) (N := 10000000000) (by omega) (by omega) (by omega) (by omega)
    have hs := half_shift_ok (hi := f * 10 ^ i / 18446744073709551616) (lo := f * 10 ^ i % 18446744073709551616) 32 (by omega) (by omega)
    rw [show f * 10 ^ i % 18446744073709551616 + 18446744073709551616 * (f * 10 ^ i / 18446744073709551616) = f * 10 ^ i from by omega, show (2 : Int) ^ min (32 : Int).toNat 63 = 4294967296 from rfl] at hs
    unfold near at hs
    have hnd : rnd (f * 10 ^ i) 4294967296 = nd f i := rfl
    rw [if_neg (by omega), hnd, if_pos (by omega)] at hs
    refine Ev.step (fun k => by rw [dec_behind.l0]) ?_
    refine evp (by omega) ?_
    refine Ev.bind (power_ok i (by omega)) ?_
    refine evs hmul ?_
    refine Ev.bind hs ?_
    refine Ev.bind (fraction_ok i (by omega) bd.1 bd.2) ?_
    by_cases c : isback f i
    · obtain ⟨rfl, rfl⟩ := hb c
      refine evp c ?_
      have lt := nd_lt (Int.le_of_lt h0) h1 c
      have tl := tell_len bd.1 hi0 (by omega) lt
      dsimp only
      rw [w64_id (x := nd f i) (by omega) (by omega)]
      refine Ev.bind (tell_ok (n := nd f i) (by omega)) ?_
      rw [tellv_pos bd.1, strOfNums_size, w64_id (by omega) (by omega)]
      refine evs (zeros_ok (c := (i : Int) - ((tell (nd f i)).length : Int)) (by omega) (by omega)) ?_
      refine evp (by rw [strOfNums_size, List.length_replicate]; omega) ?_
      rw [str_app, show ((i : Int) - ((tell (nd f i)).length : Int)).toNat = i - (tell (nd f i)).length from by omega, pad_zeros bd.1 hi0 (by omega) lt]
      exact Ev.now _
    · refine evn c ?_
      rw [w64_succ (by omega)]
      exact hnb c
  induction e with
  | zero =>
    intro i h hi
    obtain rfl : i = n := by omega
    exact one i hi h10 (fun _ => ⟨rfl, rfl⟩) (fun q => absurd hf.2.1 q)
  | succ e ih =>
    intro i h hi
    have nx := ih (i + 1) (by omega) (by omega)
    exact one i hi (by omega) (fun q => absurd q (hf.2.2 i (by omega))) (fun _ => nx)
theorem behind_ok {f : Int} {n : Nat} (h0 : 0 < f) (h1 : f < 4294967296) (hf : fewest f n) : 0 < n ∧ Ev (fun k => dec_behind.f k f) (strOfNums (padn n (nd f n))) := by
  have hn : 0 < n := by
    rcases Nat.eq_zero_or_pos n with c | c
    · subst c
      have := (isback_zero (Int.le_of_lt h0) h1).1 hf.2.1
      omega
    · exact c
  refine ⟨hn, ?_⟩
  unfold dec_behind.f
  exact behind_loop h0 h1 hf (n - 1) 1 (by omega) (by omega)
theorem fewest_zero {f : Int} {n : Nat} (h0 : 0 ≤ f) (h1 : f < 4294967296) (h : fewest f n) : n = 0 ↔ f = 0 := by
  constructor
  · intro c
    subst c
    exact (isback_zero h0 h1).1 h.2.1
  · intro c
    have := fewest_le h ((isback_zero h0 h1).2 c)
    omega
theorem dec_put_ok {x : Int} (hx : -9223372036854775808 ≤ x ∧ x < 9223372036854775808) {n : Nat} (hf : fewest (iabs x % 4294967296) n) : Ev (fun k => dec_Put.f k x) (strOfNums (putl x n)) := by
  have u0 := iabs_nonneg x
  have u1 := iabs_lt hx
  have hz := fewest_zero (f := iabs x % 4294967296) (by omega) (by omega) hf
  have hlo := u64_lo32 (x := iabs x) u0 (by omega)
  have lT := (tell_ex (u := iabs x / 4294967296) (by omega) (by omega)).2.1
  unfold dec_Put.f putl
  refine evs (fix_size_ok hx) ?_
  rw [w64_id (x := iabs x / 4294967296) (by omega) (by omega)]
  refine Ev.bind (tell_ok (n := iabs x / 4294967296) (by omega)) ?_
  rw [tellv_pos (by omega), hlo, show (⟨#[45]⟩ : ByteArray) = strOfNums [45] from by decide +kernel, show (⟨#[46]⟩ : ByteArray) = strOfNums [46] from by decide +kernel]
  by_cases c : x < 0
  · rw [if_pos c]
    refine evp c ?_
    refine evp (by rw [strOfNums_size]; omega) ?_
    by_cases d : iabs x % 4294967296 = 0
    · rw [if_pos (hz.2 d), str_app, List.append_nil]
      exact evp d (Ev.now _)
    · rw [if_neg (fun q => d (hz.1 q))]
      have hb := (behind_ok (by omega) (by omega) hf).2
      have lp := padn_len n (nd (iabs x % 4294967296) n)
      have h10 := hf.1
      refine evn d ?_
      refine Ev.bind hb ?_
      refine evp (by rw [strOfNums_size]; omega) ?_
      rw [str_app, str_app]
      refine evp (by rw [strOfNums_size, strOfNums_size]; simp; omega) ?_
      rw [str_app, List.append_assoc]
      exact Ev.now _
  · rw [if_neg c, List.nil_append]
    refine evn c ?_
    by_cases d : iabs x % 4294967296 = 0
    · rw [if_pos (hz.2 d), List.append_nil]
      exact evp d (Ev.now _)
    · rw [if_neg (fun q => d (hz.1 q))]
      have hb := (behind_ok (by omega) (by omega) hf).2
      have lp := padn_len n (nd (iabs x % 4294967296) n)
      have h10 := hf.1
      refine evn d ?_
      refine Ev.bind hb ?_
      refine evp (by rw [strOfNums_size]; omega) ?_
      rw [str_app]
      refine evp (by rw [strOfNums_size, strOfNums_size]; simp; omega) ?_
      rw [str_app]
      exact Ev.now _
/-! ### What a number's own decimal is read as -/
theorem lead_app {A r : List Int} (hA : ∀ x, x ∈ A → isDig x) (hr : r = [] ∨ ¬ isDig (r.getD 0 0)) : lead (A ++ r) = A.length := by
  induction A with
  | nil =>
    cases r with
    | nil => rfl
    | cons y t =>
      rcases hr with q | q
      · cases q
      · exact if_neg q
  | cons x t ih =>
    rw [List.cons_append, show lead (x :: (t ++ r)) = lead (t ++ r) + 1 from if_pos (hA x (by simp)), ih (fun y hy => hA y (by simp [hy]))]
    rfl
def fracl (n : Nat) (d : Int) : List Int := if n = 0 then [] else 46 :: padn n d
theorem parts {W d : Int} {n : Nat} (h0 : 0 ≤ W) (h1 : W < 10000000000) : valid (tell W ++ fracl n d) ∧ ahead (tell W ++ fracl n d) = tell W ∧ frac (tell W ++ fracl n d) = padn n d := by
  obtain ⟨l0, l1, hd, hv, hz⟩ := tell_ex h0 (by omega)
  have pd := padn_dig n d
  have pl := padn_len n d
  generalize tell W = T at *
  have hl : lead (T ++ fracl n d) = T.length := by
    refine lead_app hd ?_
    unfold fracl
    split
    · exact .inl rfl
    · exact .inr (by unfold isDig; show ¬ ((48 : Int) ≤ 46 ∧ _); omega)
  have hF : frac (T ++ fracl n d) = padn n d := by
    unfold frac
    rw [hl, ← List.drop_drop, List.drop_left]
    unfold fracl
    by_cases c : n = 0
    · subst c
      rfl
    · rw [if_neg c]
      rfl
  refine ⟨⟨by omega, ?_, ?_⟩, ?_, hF⟩
  · rw [hl]
    rintro ⟨q1, q2⟩
    refine hz q1 ?_
    rwa [List.getD_eq_getElem?_getD, List.getElem?_append_left (by omega), ← List.getD_eq_getElem?_getD] at q2
  · unfold tailv
    have hF2 := hF
    unfold frac at hF2
    rw [hF2, hl]
    by_cases c : n = 0
    · left
      unfold fracl
      rw [if_pos c, List.append_nil]
    · right
      refine ⟨?_, ?_, ?_⟩
      · unfold fracl
        rw [if_neg c, List.getD_eq_getElem?_getD, List.getElem?_append_right (by omega), Nat.sub_self]
        rfl
      · unfold fracl
        rw [if_neg c, List.length_append, List.length_cons, pl]
        omega
      · rw [(lead_all _).2 pd, pl]
        unfold fracl
        rw [if_neg c, List.length_append, List.length_cons, pl]
        omega
  · unfold ahead
    rw [hl, List.take_left']
    rfl
theorem putl_body (x : Int) (n : Nat) (hx : -9223372036854775808 ≤ x ∧ x < 9223372036854775808) : isneg (putl x n) = decide (x < 0) ∧ body (putl x n) = tell (iabs x / 4294967296) ++ fracl n (nd (iabs x % 4294967296) n) := by
  have u0 := iabs_nonneg x
  have u1 := iabs_lt hx
  obtain ⟨l0, l1, hd, hv, hz⟩ := tell_ex (u := iabs x / 4294967296) (by omega) (by omega)
  have e : putl x n = (if x < 0 then [45] else []) ++ (tell (iabs x / 4294967296) ++ fracl n (nd (iabs x % 4294967296) n)) := rfl
  generalize tell (iabs x / 4294967296) = T at *
  rw [e]
  by_cases c : x < 0
  · rw [if_pos c]
    have hn : isneg ([45] ++ (T ++ fracl n (nd (iabs x % 4294967296) n))) = true := decide_eq_true ⟨by simp, rfl⟩
    refine ⟨by rw [hn, decide_eq_true c], ?_⟩
    unfold body
    rw [hn, if_pos rfl]
    rfl
  · rw [if_neg c, List.nil_append]
    have hn : isneg (T ++ fracl n (nd (iabs x % 4294967296) n)) = false := by
      refine decide_eq_false ?_
      rintro ⟨_, q⟩
      rw [List.getD_eq_getElem?_getD, List.getElem?_append_left (by omega), List.getElem?_eq_getElem (by omega)] at q
      have := hd _ (List.getElem_mem (show 0 < T.length by omega))
      rw [Option.getD_some] at q
      rw [q] at this
      exact absurd this.1 (by decide)
    refine ⟨by rw [hn, decide_eq_false c], ?_⟩
    unfold body
    rw [hn, if_neg (by simp)]
theorem putl_byte (x : Int) (n : Nat) (hx : -9223372036854775808 ≤ x ∧ x < 9223372036854775808) : numsOf (strOfNums (putl x n)) = putl x n ∧ (putl x n).length ≤ 22 + n := by
  have u0 := iabs_nonneg x
  have u1 := iabs_lt hx
  obtain ⟨l0, l1, hd, hv, hz⟩ := tell_ex (u := iabs x / 4294967296) (by omega) (by omega)
  have pd := padn_dig n (nd (iabs x % 4294967296) n)
  have pl := padn_len n (nd (iabs x % 4294967296) n)
  constructor
  · refine nums_str fun y hy => ?_
    unfold putl at hy
    rcases List.mem_append.1 hy with q | q
    · by_cases c : x < 0
      · rw [if_pos c, List.mem_singleton] at q
        omega
      · rw [if_neg c] at q
        cases q
    · rcases List.mem_append.1 q with q | q
      · have := hd y q
        unfold isDig at this
        omega
      · by_cases c : n = 0
        · rw [if_pos c] at q
          cases q
        · rw [if_neg c] at q
          rcases List.mem_cons.1 q with q | q
          · omega
          · have := pd y q
            unfold isDig at this
            omega
  · unfold putl
    rw [List.length_append, List.length_append]
    have a : (if x < 0 then [(45 : Int)] else []).length ≤ 1 := by split <;> simp
    have b : (if n = 0 then [] else 46 :: padn n (nd (iabs x % 4294967296) n)).length ≤ n + 1 := by
      split
      · simp
      · rw [List.length_cons, pl]
        omega
    omega
theorem sgn_abs {x : Int} (hx : -9223372036854775808 ≤ x ∧ x < 9223372036854775808) : sgn (iabs x) (decide (x < 0)) = (x, 0) := by
  unfold sgn iabs
  by_cases c : x < 0
  · rw [decide_eq_true c, if_pos rfl, if_pos c, if_pos (by omega), Int.neg_neg]
  · rw [decide_eq_false c, if_neg (by simp), if_neg c, if_pos (by omega)]
theorem putl_back {x : Int} (hx : -9223372036854775808 ≤ x ∧ x < 9223372036854775808) {n : Nat} (hf : fewest (iabs x % 4294967296) n) : decv (putl x n) = (x, 0) ∧ plv (putl x n) = n := by
  have u0 := iabs_nonneg x
  have u1 := iabs_lt hx
  have h10 := hf.1
  obtain ⟨hs, hb⟩ := putl_body x n hx
  obtain ⟨pv, pa, pf⟩ := parts (W := iabs x / 4294967296) (d := nd (iabs x % 4294967296) n) (n := n) (by omega) (by omega)
  have pl := padn_len n (nd (iabs x % 4294967296) n)
  have lt := nd_lt (f := iabs x % 4294967296) (by omega) (by omega) hf.2.1
  have bd := nd_le (f := iabs x % 4294967296) n (by omega) (by omega)
  have tv := (tell_ex (u := iabs x / 4294967296) (by omega) (by omega)).2.2.2.1
  have hm : mag (body (putl x n)) = iabs x := by
    rw [hb, mag_eq pv, pa, pf, pl, tv, padn_val n _ bd.1 lt]
    have := hf.2.1
    unfold isback at this
    rw [this]
    omega
  constructor
  · unfold decv
    rw [hm, hs, sgn_abs hx, hb, if_pos pv, pf, pl, if_neg (by omega), if_pos rfl]
  · unfold plv
    rw [hb, if_pos pv, pf, pl]
end Go.Proofs.Ytemmnjnihngjgaa.Num
