/- Numbers as decimals (layer 5): a number's own decimal, the program's and the reference's, by value. Numbers as decimals (layer 5): a number's own decimal, the reference's, by value. Texts that are parted at a byte, by value. Events' lines (layer 36): the program's and the reference's, by value. How far two numbers are apart (layer 7's reference), by value. Lists that are the same, lists of all of a function's values, copies: by value. Averages in which all count alike (layer 34): the program's and the reference's, by value. Words and lines (layer 45), by value. A step's lines (layer 45), by value. A step's lines (layer 45), by value: the rounds. A step's lines (layer 45), by value: the reference's. A state's lines (layer 45), by value. A state's lines (layer 45), by value: the rounds. A state's lines (layer 45), by value: the reference's. The text of a trace and of a state (layer 45). The text of any trace and any state. -/
import Derived.Test.YtcgdhpnobgimfaaMTT4
import Derived.Test.YtcgdhpnobgimfaaMTT6
import Derived.Test.YtcgdhpnobgimfaaMTT5
section
namespace Go.Proofs.Ytcgdhpnobgimfaa.Num
set_option linter.unusedVariables false
set_option linter.unusedSimpArgs false
open Go.RowKit Go.Proofs.Ytcgdhpnobgimfaa.PT Go.Proofs.YtcgdhpnobgimfaaW.PrintWords Go.Proofs.YtcgdhpnobgimfaaW.PrintMore

/-- The nearest decimal of n digits, and whether it is read as the fraction. -/
def nd (f : Int) (n : Nat) : Int := rnd (f * 10 ^ n) 4294967296
def isback (f : Int) (n : Nat) : Prop := rnd (nd f n * 4294967296) (10 ^ n) = f
def fewest (f : Int) (n : Nat) : Prop := n ≤ 10 ∧ isback f n ∧ ∀ j, j < n → ¬ isback f j
theorem nd_le {f : Int} (n : Nat) (h0 : 0 ≤ f) (h1 : f < 4294967296) : 0 ≤ nd f n ∧ nd f n ≤ 10 ^ n := by
  have p := ten_pos n
  refine ⟨rnd_nonneg (Int.mul_nonneg h0 (by omega)) (by omega), rnd_le (by omega) ?_⟩
  rw [Int.mul_comm]
  exact Int.mul_le_mul_of_nonneg_left (by omega) (by omega)
theorem nd_lt {f : Int} {n : Nat} (h0 : 0 ≤ f) (h1 : f < 4294967296) (h : isback f n) : nd f n < 10 ^ n := by
  have b := nd_le n h0 h1
  have p := ten_pos n
  rcases Int.lt_or_le (nd f n) (10 ^ n) with c | c
  · exact c
  · exfalso
    have e : nd f n = 10 ^ n := by omega
    unfold isback at h
    rw [e, Int.mul_comm, rnd_exact _ p] at h
    omega
theorem isback_ten (f : Int) : isback f 10 := by
  have := short_ten f
  unfold isback nd
  rw [show (10 : Int) ^ 10 = 10000000000 from by decide]
  exact this
theorem isback_zero {f : Int} (h0 : 0 ≤ f) (h1 : f < 4294967296) : isback f 0 ↔ f = 0 := by
  have b := nd_le 0 h0 h1
  have e := rnd_exact (nd f 0 * 4294967296) (d := 1) (by omega)
  rw [Int.mul_one] at e
  have p0 : (10 : Int) ^ 0 = 1 := rfl
  unfold isback
  rw [p0] at *
  rw [e]
  constructor
  · intro h
    omega
  · intro h
    subst h
    have : nd 0 0 = 0 := by
      unfold nd
      rw [Int.zero_mul]
      rfl
    rw [this]
    rfl
theorem fewest_ex {f : Int} : ∃ n, fewest f n := by
  have key : ∀ d i : Nat, i + d = 10 → (∀ j, j < i → ¬ isback f j) → ∃ n, fewest f n := by
    intro d
    induction d with
    | zero =>
      intro i h hj
      obtain rfl : i = 10 := by omega
      exact ⟨10, by omega, isback_ten f, hj⟩
    | succ d ih =>
      intro i h hj
      rcases Classical.em (isback f i) with c | c
      · exact ⟨i, by omega, c, hj⟩
      · refine ih (i + 1) (by omega) fun j hji => ?_
        rcases Nat.lt_or_ge j i with q | q
        · exact hj j q
        · obtain rfl : j = i := by omega
          exact c
  exact key 10 0 (by omega) (fun j h => by omega)
theorem fewest_le {f : Int} {m n : Nat} (h : fewest f m) (hn : isback f n) : m ≤ n := by
  rcases Nat.lt_or_ge n m with c | c
  · exact absurd hn (h.2.2 n c)
  · exact c
/-- A number's decimal, of n digits behind the point. -/
def putl (x : Int) (n : Nat) : List Int := (if x < 0 then [45] else []) ++ (tell (iabs x / 4294967296) ++ (if n = 0 then [] else 46 :: padn n (nd (iabs x % 4294967296) n)))
theorem rep_str (n : Nat) : (⟨(List.replicate n (48 : UInt8)).toArray⟩ : ByteArray) = strOfNums (List.replicate n 48) := by
  unfold strOfNums
  rw [List.map_replicate]
  rfl
theorem zeros_ok {c : Int} (h0 : 0 ≤ c) (h1 : c ≤ 200) : strings_Repeat.f ⟨#[48]⟩ c = some (strOfNums (List.replicate c.toNat 48)) := by
  unfold strings_Repeat.f
  rw [if_pos ⟨h0, by omega, by show 1 * c.toNat ≤ _; omega⟩]
  have := Lib.repeatL_replicate 48 1 c.toNat
  rw [Nat.mul_one] at this
  rw [← rep_str, ← this]
  rfl
theorem tellv_pos {u : Int} (h : 0 ≤ u) : tellv u = strOfNums (tell u) := by
  unfold tellv
  rw [if_neg (by omega)]
  rfl
theorem behind_loop {f : Int} {n : Nat} (h0 : 0 < f) (h1 : f < 4294967296) (hf : fewest f n) (e : Nat) : ∀ i : Nat, i + e = n → 0 < i → Ev (fun k => dec_behind.l0 k f (i : Int)) (strOfNums (padn n (nd f n))) := by
  have h10 := hf.1
  have one : ∀ i : Nat, 0 < i → i ≤ 10 → ∀ {R : ByteArray}, (isback f i → i = n ∧ R = strOfNums (padn n (nd f n))) → (¬ isback f i → Ev (fun k => dec_behind.l0 k f ((i + 1 : Nat) : Int)) R) → Ev (fun k => dec_behind.l0 k f (i : Int)) R := by
    intro i hi0 hi R hb hnb
    have hm := ten_mono (m := i) (n := 19) (by omega)
    have hm10 := ten_mono (m := i) (n := 10) (by omega)
    have e10 : (10 : Int) ^ 10 = 10000000000 := by decide
    rw [ten19] at hm
    have p := ten_pos i
    have bd := nd_le i (Int.le_of_lt h0) h1
    have hmul := pair_mul_ok (x := f) (y := 10 ^ i) (by omega) (by omega) (by omega) (by omega)
    have hp := mul_bd (x := f) (y := 10 ^ i) (M := 4294967295) (N := 10000000000) (by omega) (by omega) (by omega) (by omega)
    have hs := half_shift_ok (hi := f * 10 ^ i / 18446744073709551616) (lo := f * 10 ^ i % 18446744073709551616) 32 (by omega) (by omega)
    rw [show f * 10 ^ i % 18446744073709551616 + 18446744073709551616 * (f * 10 ^ i / 18446744073709551616) = f * 10 ^ i from by omega, show (2 : Int) ^ min (32 : Int).toNat 63 = 4294967296 from rfl] at hs
    unfold near at hs
    have hnd : rnd (f * 10 ^ i) 4294967296 = nd f i := rfl
    rw [if_neg (by omega), hnd, if_pos (by omega)] at hs
    refine Ev.step (fun k => by rw [dec_behind.l0]) ?_
    refine evp (by omega) ?_
    refine Ev.bind (power_ok i (by omega)) ?_
    refine evs hmul ?_
    refine Ev.bind hs ?_
    refine Ev.bind (fraction_ok i (by omega) bd.1 bd.2) ?_
    by_cases c : isback f i
    · obtain ⟨rfl, rfl⟩ := hb c
      refine evp c ?_
      have lt := nd_lt (Int.le_of_lt h0) h1 c
      have tl := tell_len bd.1 hi0 (by omega) lt
      dsimp only
      rw [w64_id (x := nd f i) (by omega) (by omega)]
      refine Ev.bind (tell_ok (n := nd f i) (by omega)) ?_
      rw [tellv_pos bd.1, strOfNums_size, w64_id (by omega) (by omega)]
      refine evs (zeros_ok (c := (i : Int) - ((tell (nd f i)).length : Int)) (by omega) (by omega)) ?_
      refine evp (by rw [strOfNums_size, List.length_replicate]; omega) ?_
      rw [str_app, show ((i : Int) - ((tell (nd f i)).length : Int)).toNat = i - (tell (nd f i)).length from by omega, pad_zeros bd.1 hi0 (by omega) lt]
      exact Ev.now _
    · refine evn c ?_
      rw [w64_succ (by omega)]
      exact hnb c
  induction e with
  | zero =>
    intro i h hi
    obtain rfl : i = n := by omega
    exact one i hi h10 (fun _ => ⟨rfl, rfl⟩) (fun q => absurd hf.2.1 q)
  | succ e ih =>
    intro i h hi
    have nx := ih (i + 1) (by omega) (by omega)
    exact one i hi (by omega) (fun q => absurd q (hf.2.2 i (by omega))) (fun _ => nx)
theorem behind_ok {f : Int} {n : Nat} (h0 : 0 < f) (h1 : f < 4294967296) (hf : fewest f n) : 0 < n ∧ Ev (fun k => dec_behind.f k f) (strOfNums (padn n (nd f n))) := by
  have hn : 0 < n := by
    rcases Nat.eq_zero_or_pos n with c | c
    · subst c
      have := (isback_zero (Int.le_of_lt h0) h1).1 hf.2.1
      omega
    · exact c
  refine ⟨hn, ?_⟩
  unfold dec_behind.f
  exact behind_loop h0 h1 hf (n - 1) 1 (by omega) (by omega)
theorem fewest_zero {f : Int} {n : Nat} (h0 : 0 ≤ f) (h1 : f < 4294967296) (h : fewest f n) : n = 0 ↔ f = 0 := by
  constructor
  · intro c
    subst c
    exact (isback_zero h0 h1).1 h.2.1
  · intro c
    have := fewest_le h ((isback_zero h0 h1).2 c)
    omega
theorem dec_put_ok {x : Int} (hx : -9223372036854775808 ≤ x ∧ x < 9223372036854775808) {n : Nat} (hf : fewest (iabs x % 4294967296) n) : Ev (fun k => dec_Put.f k x) (strOfNums (putl x n)) := by
  have u0 := iabs_nonneg x
  have u1 := iabs_lt hx
  have hz := fewest_zero (f := iabs x % 4294967296) (by omega) (by omega) hf
  have hlo := u64_lo32 (x := iabs x) u0 (by omega)
  have lT := (tell_ex (u := iabs x / 4294967296) (by omega) (by omega)).2.1
  unfold dec_Put.f putl
  refine evs (fix_size_ok hx) ?_
  rw [w64_id (x := iabs x / 4294967296) (by omega) (by omega)]
  refine Ev.bind (tell_ok (n := iabs x / 4294967296) (by omega)) ?_
  rw [tellv_pos (by omega), hlo, show (⟨#[45]⟩ : ByteArray) = strOfNums [45] from by decide +kernel, show (⟨#[46]⟩ : ByteArray) = strOfNums [46] from by decide +kernel]
  by_cases c : x < 0
  · rw [if_pos c]
    refine evp c ?_
    refine evp (by rw [strOfNums_size]; omega) ?_
    by_cases d : iabs x % 4294967296 = 0
    · rw [if_pos (hz.2 d), str_app, List.append_nil]
      exact evp d (Ev.now _)
    · rw [if_neg (fun q => d (hz.1 q))]
      have hb := (behind_ok (by omega) (by omega) hf).2
      have lp := padn_len n (nd (iabs x % 4294967296) n)
      have h10 := hf.1
      refine evn d ?_
      refine Ev.bind hb ?_
      refine evp (by rw [strOfNums_size]; omega) ?_
      rw [str_app, str_app]
      refine evp (by rw [strOfNums_size, strOfNums_size]; simp; omega) ?_
      rw [str_app, List.append_assoc]
      exact Ev.now _
  · rw [if_neg c, List.nil_append]
    refine evn c ?_
    by_cases d : iabs x % 4294967296 = 0
    · rw [if_pos (hz.2 d), List.append_nil]
      exact evp d (Ev.now _)
    · rw [if_neg (fun q => d (hz.1 q))]
      have hb := (behind_ok (by omega) (by omega) hf).2
      have lp := padn_len n (nd (iabs x % 4294967296) n)
      have h10 := hf.1
      refine evn d ?_
      refine Ev.bind hb ?_
      refine evp (by rw [strOfNums_size]; omega) ?_
      rw [str_app]
      refine evp (by rw [strOfNums_size, strOfNums_size]; simp; omega) ?_
      rw [str_app]
      exact Ev.now _
/-! ### What a number's own decimal is read as -/
theorem lead_app {A r : List Int} (hA : ∀ x, x ∈ A → isDig x) (hr : r = [] ∨ ¬ isDig (r.getD 0 0)) : lead (A ++ r) = A.length := by
  induction A with
  | nil =>
    cases r with
    | nil => rfl
    | cons y t =>
      rcases hr with q | q
      · cases q
      · exact if_neg q
  | cons x t ih =>
    rw [List.cons_append, show lead (x :: (t ++ r)) = lead (t ++ r) + 1 from if_pos (hA x (by simp)), ih (fun y hy => hA y (by simp [hy]))]
    rfl
def fracl (n : Nat) (d : Int) : List Int := if n = 0 then [] else 46 :: padn n d
theorem parts {W d : Int} {n : Nat} (h0 : 0 ≤ W) (h1 : W < 10000000000) : valid (tell W ++ fracl n d) ∧ ahead (tell W ++ fracl n d) = tell W ∧ frac (tell W ++ fracl n d) = padn n d := by
  obtain ⟨l0, l1, hd, hv, hz⟩ := tell_ex h0 (by omega)
  have pd := padn_dig n d
  have pl := padn_len n d
  generalize tell W = T at *
  have hl : lead (T ++ fracl n d) = T.length := by
    refine lead_app hd ?_
    unfold fracl
    split
    · exact .inl rfl
    · exact .inr (by unfold isDig; show ¬ ((48 : Int) ≤ 46 ∧ _); omega)
  have hF : frac (T ++ fracl n d) = padn n d := by
    unfold frac
    rw [hl, ← List.drop_drop, List.drop_left]
    unfold fracl
    by_cases c : n = 0
    · subst c
      rfl
    · rw [if_neg c]
      rfl
  refine ⟨⟨by omega, ?_, ?_⟩, ?_, hF⟩
  · rw [hl]
    rintro ⟨q1, q2⟩
    refine hz q1 ?_
    rwa [List.getD_eq_getElem?_getD, List.getElem?_append_left (by omega), ← List.getD_eq_getElem?_getD] at q2
  · unfold tailv
    have hF2 := hF
    unfold frac at hF2
    rw [hF2, hl]
    by_cases c : n = 0
    · left
      unfold fracl
      rw [if_pos c, List.append_nil]
    · right
      refine ⟨?_, ?_, ?_⟩
      · unfold fracl
        rw [if_neg c, List.getD_eq_getElem?_getD, List.getElem?_append_right (by omega), Nat.sub_self]
        rfl
      · unfold fracl
        rw [if_neg c, List.length_append, List.length_cons, pl]
        omega
      · rw [(lead_all _).2 pd, pl]
        unfold fracl
        rw [if_neg c, List.length_append, List.length_cons, pl]
        omega
  · unfold ahead
    rw [hl, List.take_left']
    rfl
theorem putl_byte (x : Int) (n : Nat) (hx : -9223372036854775808 ≤ x ∧ x < 9223372036854775808) : numsOf (strOfNums (putl x n)) = putl x n ∧ (putl x n).length ≤ 22 + n := by
  have u0 := iabs_nonneg x
  have u1 := iabs_lt hx
  obtain ⟨l0, l1, hd, hv, hz⟩ := tell_ex (u := iabs x / 4294967296) (by omega) (by omega)
  have pd := padn_dig n (nd (iabs x % 4294967296) n)
  have pl := padn_len n (nd (iabs x % 4294967296) n)
  constructor
  · refine nums_str fun y hy => ?_
    unfold putl at hy
    rcases List.mem_append.1 hy with q | q
    · by_cases c : x < 0
      · rw [if_pos c, List.mem_singleton] at q
        omega
      · rw [if_neg c] at q
        cases q
    · rcases List.mem_append.1 q with q | q
      · have := hd y q
        unfold isDig at this
        omega
      · by_cases c : n = 0
        · rw [if_pos c] at q
          cases q
        · rw [if_neg c] at q
          rcases List.mem_cons.1 q with q | q
          · omega
          · have := pd y q
            unfold isDig at this
            omega
  · unfold putl
    rw [List.length_append, List.length_append]
    have a : (if x < 0 then [(45 : Int)] else []).length ≤ 1 := by split <;> simp
    have b : (if n = 0 then [] else 46 :: padn n (nd (iabs x % 4294967296) n)).length ≤ n + 1 := by
      split
      · simp
      · rw [List.length_cons, pl]
        omega
    omega
end Go.Proofs.Ytcgdhpnobgimfaa.Num
end
section
namespace Go.Proofs.Ytcgdhpnobgimfaa.Num
set_option linter.unusedVariables false
set_option linter.unusedSimpArgs false
open Go.RowKit Go.Proofs.Ytcgdhpnobgimfaa.PT Go.Proofs.YtcgdhpnobgimfaaW.PrintWords Go.Proofs.YtcgdhpnobgimfaaW.PrintMore

theorem low_digit {r : List Int} (hr : dok r) {v : Int} (h : dv r = v) (h0 : 0 ≤ v) (h1 : v < 65536) (hl : 0 < r.length) : r.getD 0 0 = v := by
  cases r with
  | nil => simp at hl
  | cons x t =>
    have hx := hr x List.mem_cons_self
    have ht := dv_nonneg (dok_tail hr)
    simp only [dv] at h
    show x = v
    omega
theorem text5_loop (m : Nat) : ∀ (u : Int) (a : List Int) (acc : List Int), dok a → dv a = u → 0 ≤ u → u < 10 ^ (m + 1) → a.length + m ≤ 300 → acc.length + m ≤ 100 →
    Ev (fun k => regimenref05_Text.j1 k a (⟨#[48, 49, 50, 51, 52, 53, 54, 55, 56, 57]⟩ : ByteArray) (strOfNums acc) true) (strOfNums (dig (m + 1) u acc)) := by
  have step : ∀ (u : Int) (a : List Int) (acc : List Int) {R : ByteArray}, dok a → dv a = u → 0 ≤ u → a.length ≤ 300 → acc.length ≤ 100 →
      (∀ q : List Int, dok q → dv q = u / 10 → q.length ≤ a.length + 1 → Ev (fun k => regimenref05_Text.l0 k q (⟨#[48, 49, 50, 51, 52, 53, 54, 55, 56, 57]⟩ : ByteArray) (strOfNums ((48 + u % 10) :: acc))) R) →
      Ev (fun k => regimenref05_Text.j1 k a (⟨#[48, 49, 50, 51, 52, 53, 54, 55, 56, 57]⟩ : ByteArray) (strOfNums acc) true) R := by
    intro u a acc R da va h0 la lacc H
    have hten : dv [10] = 10 := by simp [dv]
    obtain ⟨q, hq, dq, vq, lq⟩ := quotient_ok a [10] da (dok_one (by omega)) (by simp) (by omega) (by omega)
    rw [va, hten] at vq
    obtain ⟨p, hp, dp, vp, lp⟩ := times_ok q [10] dq (dok_one (by omega)) (by omega) (by simp)
    rw [vq, hten] at vp
    have da0 : dok (a ++ [0]) := dok_snoc da (by omega)
    have va0 : dv (a ++ [0]) = u := by rw [dv_snoc, va]; simp
    obtain ⟨r, hr, dr, vr, lr⟩ := less_ok (a ++ [0]) p da0 dp (by simp; omega) (by rw [va0, vp]; omega)
    have lr : r.length = a.length + 1 := by rw [lr]; simp
    have v : r.getD 0 0 = u % 10 := low_digit dr (by rw [vr, va0, vp]; omega) (by omega) (by omega) (by omega)
    have hn := digit_str (u % 10).toNat (by omega)
    have e : (⟨#[48, 49, 50, 51, 52, 53, 54, 55, 56, 57]⟩ : ByteArray).extract (u % 10).toNat (u % 10 + 1).toNat = strOfNums [48 + u % 10] := by
      rw [show (u % 10 + 1).toNat = (u % 10).toNat + 1 from by omega, hn, show ((u % 10).toNat : Int) = u % 10 from by omega]
    refine Ev.step (fun k => by rw [regimenref05_Text.j1]) ?_
    refine evp rfl ?_
    refine Ev.bind hq ?_
    refine evs rfl ?_
    refine evp (by simp; omega) ?_
    refine evs rfl ?_
    refine evp (by simp; omega) ?_
    refine Ev.bind hp ?_
    rw [List.nil_append]
    refine Ev.bind hr ?_
    refine evp (by omega) ?_
    rw [show rd r 0 = r.getD 0 0 from rd_nat r 0, v, u64_id (x := u % 10 + 1) (by omega) (by omega), e]
    refine evp (by omega) ?_
    refine evp (by omega) ?_
    refine evp (by show u % 10 + 1 ≤ 10; omega) ?_
    refine evp (by rw [strOfNums_size, strOfNums_size]; simp only [List.length_cons, List.length_nil]; omega) ?_
    rw [str_app]
    exact H q dq vq lq
  have stop : ∀ (q : List Int) (l : List Int) {R : ByteArray}, dok q → q.length ≤ 1000 → 0 < l.length → (dv q = 0 → R = strOfNums l) → (0 < dv q → Ev (fun k => regimenref05_Text.j1 k q (⟨#[48, 49, 50, 51, 52, 53, 54, 55, 56, 57]⟩ : ByteArray) (strOfNums l) true) R) →
      Ev (fun k => regimenref05_Text.l0 k q (⟨#[48, 49, 50, 51, 52, 53, 54, 55, 56, 57]⟩ : ByteArray) (strOfNums l)) R := by
    intro q l R dq lq hl h0 h1
    have nn := dv_nonneg dq
    have hc := cmp_ok q [] dq dok_nil (by omega) (by simp)
    rw [show dv [] = 0 from rfl] at hc
    refine Ev.step (fun k => by rw [regimenref05_Text.l0]) ?_
    refine evn (by rw [strOfNums_size]; omega) ?_
    refine Ev.bind hc ?_
    by_cases c : dv q = 0
    · rw [if_neg (by omega), if_neg (by omega), h0 c]
      refine Ev.step (fun k => by rw [regimenref05_Text.j1]) ?_
      exact evn (by decide) (Ev.now _)
    · rw [if_neg (by omega), if_pos (by omega)]
      exact h1 (by omega)
  induction m with
  | zero =>
    intro u a acc da va h0 h1 la lacc
    have h1 : u < 10 := by simpa using h1
    refine step u a acc da va h0 (by omega) (by omega) fun q dq vq lq => ?_
    refine stop q _ dq (by omega) (by simp) (fun _ => ?_) (fun h => by omega)
    rw [show dig (0 + 1) u acc = (48 + u % 10) :: acc from if_pos (by omega)]
  | succ m ih =>
    intro u a acc da va h0 h1 la lacc
    rw [Int.pow_succ] at h1
    refine step u a acc da va h0 (by omega) (by omega) fun q dq vq lq => ?_
    refine stop q _ dq (by omega) (by simp) (fun h => ?_) (fun h => ?_)
    · rw [show dig (m + 1 + 1) u acc = (48 + u % 10) :: acc from if_pos (by omega)]
    · rw [show dig (m + 1 + 1) u acc = dig (m + 1) (u / 10) ((48 + u % 10) :: acc) from if_neg (by omega)]
      exact ih (u / 10) q _ dq vq (by omega) (by omega) (by omega) (by simp only [List.length_cons]; omega)
theorem text5_ok {a : List Int} {u : Int} (da : dok a) (va : dv a = u) (h0 : 0 ≤ u) (h1 : u < 100000000000000000000) (la : a.length ≤ 200) : Ev (fun k => regimenref05_Text.f k a) (strOfNums (tell u)) := by
  have t := text5_loop 19 u a [] da va h0 (by have : (10 : Int) ^ (19 + 1) = 100000000000000000000 := (by decide); omega) (by omega) (by simp)
  unfold regimenref05_Text.f
  refine Ev.step (fun k => by rw [regimenref05_Text.l0]) ?_
  refine evp (by decide) ?_
  exact t
/-! ### The reference's decimal -/
theorem put_l1 (sign : List Int) (hs : sign.length ≤ 1) {T : List Int} {n : Nat} (hn : n ≤ 10) (e : Nat) : ∀ i : Nat, i + e = n + 1 - T.length → i + T.length ≤ 100 → 0 < T.length →
    Ev (fun k => regimenref05_Put.l1 k (strOfNums sign) (n : Int) (strOfNums (List.replicate i 48 ++ T)))
      (if n = 0 then strOfNums (sign ++ (List.replicate (n + 1 - T.length) 48 ++ T)) else strOfNums (sign ++ ((List.replicate (n + 1 - T.length) 48 ++ T).take ((List.replicate (n + 1 - T.length) 48 ++ T).length - n) ++ (46 :: (List.replicate (n + 1 - T.length) 48 ++ T).drop ((List.replicate (n + 1 - T.length) 48 ++ T).length - n))))) := by
  induction e with
  | zero =>
    intro i h hl hT
    obtain rfl : i = n + 1 - T.length := by omega
    obtain ⟨Z, hZ⟩ : ∃ Z, Z = List.replicate (n + 1 - T.length) 48 ++ T := ⟨_, rfl⟩
    have lZ : Z.length = (n + 1 - T.length) + T.length := by rw [hZ]; simp
    rw [← hZ]
    refine Ev.step (fun k => by rw [regimenref05_Put.l1]) ?_
    rw [strOfNums_size, strOfNums_size]
    refine evn (by omega) ?_
    by_cases c : n = 0
    · rw [if_pos c]
      refine evp (by omega) ?_
      refine evp (by omega) ?_
      rw [str_app]
      exact Ev.now _
    · rw [if_neg c]
      refine evn (by omega) ?_
      rw [w64_id (x := (Z.length : Int) - (n : Int)) (by omega) (by omega)]
      have eT : ((Z.length : Int) - (n : Int)).toNat = Z.length - n := by omega
      rw [eT]
      have e1 : (strOfNums Z).extract 0 (Z.length - n) = strOfNums (Z.take (Z.length - n)) := by
        apply ByteArray.ext
        rw [ByteArray.data_extract]
        apply Array.toList_inj.1
        rw [Array.toList_extract, List.extract_eq_take_drop]
        simp [strOfNums]
      have e2 : (strOfNums Z).extract (Z.length - n) Z.length = strOfNums (Z.drop (Z.length - n)) := by
        apply ByteArray.ext
        rw [ByteArray.data_extract]
        apply Array.toList_inj.1
        rw [Array.toList_extract, List.extract_eq_take_drop]
        show List.take _ (List.drop _ (Z.map fun n => UInt8.ofNat n.toNat)) = (Z.drop _).map _
        rw [List.map_drop, List.take_of_length_le (by rw [List.length_drop, List.length_map]; exact Nat.le_refl _)]
      rw [e1, e2, show (⟨#[46]⟩ : ByteArray) = strOfNums [46] from by decide +kernel, str_app, str_app, str_app, strOfNums_size, strOfNums_size, strOfNums_size, strOfNums_size]
      refine evp (by omega) ?_
      refine evp (by omega) ?_
      refine evp (by rw [List.length_take]; omega) ?_
      refine evp (by rw [List.length_append, List.length_take]; omega) ?_
      refine evp (by rw [List.length_append, List.length_append, List.length_take, List.length_drop]; simp; omega) ?_
      rw [show sign ++ (Z.take (Z.length - n) ++ (46 :: Z.drop (Z.length - n))) = ((sign ++ Z.take (Z.length - n)) ++ [46]) ++ Z.drop (Z.length - n) from by simp]
      exact Ev.now _
  | succ e ih =>
    intro i h hl hT
    have nx := ih (i + 1) (by omega) (by omega) hT
    refine Ev.step (fun k => by rw [regimenref05_Put.l1]) ?_
    refine evp (by rw [strOfNums_size, List.length_append, List.length_replicate]; omega) ?_
    refine evp (by rw [strOfNums_size, List.length_append, List.length_replicate]; omega) ?_
    rw [show (⟨#[48]⟩ : ByteArray) = strOfNums [48] from by decide +kernel, str_app]
    rw [List.replicate_succ] at nx
    exact nx
theorem back_iff {W f : Int} (hf0 : 0 ≤ f) (hf1 : f < 4294967296) (n : Nat) : rnd ((W * 4294967296 + f) * 10 ^ n) 4294967296 = (if n = 0 then rnd (W * 4294967296 + f) 4294967296 else W * 10 ^ n + nd f n) ∧ (rnd (rnd ((W * 4294967296 + f) * 10 ^ n) 4294967296 * 4294967296) (10 ^ n) = W * 4294967296 + f ↔ isback f n) := by
  have p := ten_pos n
  by_cases c : n = 0
  · subst c
    rw [if_pos rfl, show (10 : Int) ^ 0 = 1 from rfl, Int.mul_one]
    refine ⟨rfl, ?_⟩
    have e := rnd_exact (rnd (W * 4294967296 + f) 4294967296 * 4294967296) (d := 1) (by omega)
    rw [Int.mul_one] at e
    rw [e, isback_zero hf0 hf1]
    constructor
    · intro h
      omega
    · intro h
      rw [h, Int.add_zero, rnd_exact W (by omega)]
  · rw [if_neg c]
    have ev := ten_even (n := n) (by omega)
    have e1 : rnd ((W * 4294967296 + f) * 10 ^ n) 4294967296 = W * 10 ^ n + nd f n := by
      have : (W * 4294967296 + f) * 10 ^ n = (W * 10 ^ n) * 4294967296 + f * 10 ^ n := by
        rw [Int.add_mul, Int.mul_assoc, Int.mul_assoc, Int.mul_comm (10 ^ n)]
      rw [this]
      exact rnd_shift _ (by omega) (mul_even ev)
    refine ⟨e1, ?_⟩
    rw [e1]
    have e2 : (W * 10 ^ n + nd f n) * 4294967296 = (W * 4294967296) * 10 ^ n + nd f n * 4294967296 := by
      rw [Int.add_mul, Int.mul_assoc, Int.mul_assoc, Int.mul_comm (10 ^ n)]
    rw [e2, rnd_shift _ p (by omega)]
    unfold isback
    omega
theorem ref_put_l0 {x : Int} (hx : -9223372036854775808 ≤ x ∧ x < 9223372036854775808) {n : Nat} (hf : fewest (iabs x % 4294967296) n) {a : List Int} (da : dok a) (va : dv a = iabs x) (la : a.length ≤ 4) (e : Nat) : ∀ i : Nat, i + e = n →
    Ev (fun k => regimenref05_Put.l0 k a (strOfNums (if x < 0 then [45] else [])) (i : Int)) (strOfNums (putl x n)) := by
  have u0 := iabs_nonneg x
  have u1 := iabs_lt hx
  have h10 := hf.1
  have hu : iabs x / 4294967296 * 4294967296 + iabs x % 4294967296 = iabs x := by omega
  have one : ∀ i : Nat, i ≤ 10 → ∀ {R : ByteArray}, (isback (iabs x % 4294967296) i → ∀ D : List Int, dok D → dv D = rnd (iabs x * 10 ^ i) 4294967296 → D.length ≤ 60 → Ev (fun k => (regimenref05_Text.f k D).bind fun t => regimenref05_Put.l1 k (strOfNums (if x < 0 then [45] else [])) (i : Int) t) R) → (¬ isback (iabs x % 4294967296) i → Ev (fun k => regimenref05_Put.l0 k a (strOfNums (if x < 0 then [45] else [])) ((i + 1 : Nat) : Int)) R) → Ev (fun k => regimenref05_Put.l0 k a (strOfNums (if x < 0 then [45] else [])) (i : Int)) R := by
    intro i hi R hb hnb
    have bk := (back_iff (W := iabs x / 4294967296) (f := iabs x % 4294967296) (by omega) (by omega) i).2
    rw [hu] at bk
    obtain ⟨t, ht, dt, vt, lt⟩ := tens_ok i (by omega)
    obtain ⟨p, hp, dp, vp, lp⟩ := times_ok a t da dt (by omega) (by omega)
    obtain ⟨w, hw, dw, vw, lw⟩ := twos_ok 32 (by omega)
    rw [show (2 : Int) ^ (32 : Int).toNat = 4294967296 from by decide] at vw
    have lw : w.length ≤ 33 := lw
    obtain ⟨D, hD, dD, vD, lD⟩ := rounded_t p w dp dw (by omega) (by omega) (by omega)
    rw [vp, va, vt, vw] at vD
    obtain ⟨z, hz, dz, vz, lz⟩ := read_ok5 D i dD (by omega) (by omega)
    rw [vD] at vz
    have hc := cmp_ok z a dz da (by omega) (by omega)
    rw [vz, va] at hc
    refine Ev.step (fun k => by rw [regimenref05_Put.l0]) ?_
    refine evp (by omega) ?_
    refine Ev.bind ht ?_
    refine Ev.bind hp ?_
    refine Ev.bind hw ?_
    refine Ev.bind hD ?_
    refine Ev.bind hz ?_
    refine Ev.bind hc ?_
    by_cases c : isback (iabs x % 4294967296) i
    · have := bk.2 c
      refine evp (by rw [if_neg (by omega), if_neg (by omega)]) ?_
      exact hb c D dD vD (by omega)
    · have : ¬ _ := fun q => c (bk.1 q)
      refine evn (by split; (omega); split <;> omega) ?_
      rw [w64_succ (by omega)]
      exact hnb c
  induction e with
  | zero =>
    intro i h
    obtain rfl : i = n := by omega
    refine one i h10 (fun _ D dD vD lD => ?_) (fun q => absurd hf.2.1 q)
    have bk := (back_iff (W := iabs x / 4294967296) (f := iabs x % 4294967296) (by omega) (by omega) i).1
    rw [hu] at bk
    have hs : (if x < 0 then [(45 : Int)] else []).length ≤ 1 := by split <;> simp
    have hz := fewest_zero (f := iabs x % 4294967296) (by omega) (by omega) hf
    by_cases c : i = 0
    · have f0 := hz.1 c
      have vD2 : dv D = iabs x / 4294967296 := by
        have e := rnd_exact (iabs x / 4294967296) (d := 4294967296) (by omega)
        rw [show iabs x / 4294967296 * 4294967296 = iabs x from by omega] at e
        rw [vD, bk, if_pos c]
        exact e
      refine Ev.bind (text5_ok dD vD2 (by omega) (by omega) (by omega)) ?_
      obtain ⟨l0, l1, hd, hv, hzz⟩ := tell_ex (u := iabs x / 4294967296) (by omega) (by omega)
      have l := put_l1 (if x < 0 then [45] else []) hs (T := tell (iabs x / 4294967296)) (n := i) (by omega) 0 0 (by omega) (by omega) l0
      rw [if_pos c, show i + 1 - (tell (iabs x / 4294967296)).length = 0 from by omega] at l
      unfold putl
      rw [if_pos c, List.append_nil]
      exact l
    · have lt := nd_lt (f := iabs x % 4294967296) (by omega) (by omega) hf.2.1
      have bd := nd_le (f := iabs x % 4294967296) i (by omega) (by omega)
      have vD2 : dv D = iabs x / 4294967296 * 10 ^ i + nd (iabs x % 4294967296) i := by
        rw [vD, bk, if_neg c]
      have hm := ten_mono (m := i) (n := 10) (by omega)
      have e10 : (10 : Int) ^ 10 = 10000000000 := by decide
      have p := ten_pos i
      have hb := mul_bd (x := iabs x / 4294967296) (y := 10 ^ i) (M := 2147483648) (N := 10000000000) (by omega) (by omega) (by omega) (by omega)
      refine Ev.bind (text5_ok dD vD2 (by omega) (by omega) (by omega)) ?_
      obtain ⟨l0, l1, hd, hv, hzz⟩ := tell_ex (u := iabs x / 4294967296 * 10 ^ i + nd (iabs x % 4294967296) i) (by omega) (by omega)
      have sp := split_text (W := iabs x / 4294967296) (d := nd (iabs x % 4294967296) i) (n := i) (by omega) (by omega) (by omega) (by omega) bd.1 lt
      have l := put_l1 (if x < 0 then [45] else []) hs (T := tell (iabs x / 4294967296 * 10 ^ i + nd (iabs x % 4294967296) i)) (n := i) (by omega) (i + 1 - (tell (iabs x / 4294967296 * 10 ^ i + nd (iabs x % 4294967296) i)).length) 0 (by omega) (by omega) l0
      have pl := padn_len i (nd (iabs x % 4294967296) i)
      rw [if_neg c, sp, List.length_append, pl, Nat.add_sub_cancel, List.take_left', List.drop_left'] at l
      · unfold putl
        rw [if_neg c]
        exact l
      · rfl
      · rfl
  | succ e ih =>
    intro i h
    have nx := ih (i + 1) (by omega)
    exact one i (by omega) (fun q => absurd q (hf.2.2 i (by omega))) (fun _ => nx)
theorem ref_put_ok {x : Int} (hx : -9223372036854775808 ≤ x ∧ x < 9223372036854775808) {n : Nat} (hf : fewest (iabs x % 4294967296) n) : Ev (fun k => regimenref05_Put.f k x) (strOfNums (putl x n)) := by
  obtain ⟨a, ha, da, va, la⟩ := ref_size_ok hx
  have l := ref_put_l0 hx hf da va (by omega) n 0 (by omega)
  unfold regimenref05_Put.f
  refine evs ha ?_
  by_cases c : x < 0
  · rw [if_pos c] at l
    refine evp c ?_
    refine Ev.step (fun k => by rw [regimenref05_Put.j0]) ?_
    exact l
  · rw [if_neg c] at l
    refine evn c ?_
    refine Ev.step (fun k => by rw [regimenref05_Put.j0]) ?_
    exact l
end Go.Proofs.Ytcgdhpnobgimfaa.Num
end
section
namespace Go.Proofs.Ytcgdhpnobgimfaa.Num
set_option linter.unusedVariables false
set_option linter.unusedSimpArgs false
open Go.RowKit Go.Proofs.Ytcgdhpnobgimfaa.PT Go.Proofs.YtcgdhpnobgimfaaW.PrintWords Go.Proofs.YtcgdhpnobgimfaaW.PrintMore

end Go.Proofs.Ytcgdhpnobgimfaa.Num
end
section
namespace Go.Proofs.Ytcgdhpnobgimfaa.Num
set_option linter.unusedVariables false
set_option linter.unusedSimpArgs false
open Go.RowKit Go.Proofs.Ytcgdhpnobgimfaa.PT Go.Proofs.YtcgdhpnobgimfaaW.PrintWords Go.Proofs.YtcgdhpnobgimfaaW.PrintMore

theorem tellv_size {n : Int} (h : -9223372036854775808 ≤ n ∧ n < 9223372036854775808) : (tellv n).size ≤ 21 := by
  unfold tellv
  split
  · obtain ⟨m, e, l0, l1, _⟩ := dig_props 19 (-n) [] (by omega) (by have := p20; omega)
    rw [strOfNums_size, List.length_cons, e, List.append_nil]
    omega
  · obtain ⟨m, e, l0, l1, _⟩ := dig_props 19 n [] (by omega) (by have := p20; omega)
    rw [strOfNums_size, e, List.append_nil]
    omega
def wordsL : List ByteArray := [(⟨#[]⟩ : ByteArray), (⟨#[112, 104, 97, 115, 101]⟩ : ByteArray), (⟨#[116, 104, 97, 119]⟩ : ByteArray), (⟨#[102, 114, 101, 101, 122, 101]⟩ : ByteArray), (⟨#[115, 119, 97]⟩ : ByteArray), (⟨#[102, 97, 105, 108]⟩ : ByteArray), (⟨#[109, 105, 115, 115]⟩ : ByteArray), (⟨#[107, 101, 101, 112]⟩ : ByteArray), (⟨#[100, 114, 111, 112]⟩ : ByteArray), (⟨#[99, 117, 116]⟩ : ByteArray), (⟨#[115, 116, 111, 112]⟩ : ByteArray), (⟨#[101, 110, 100]⟩ : ByteArray)]
/-- A kind's word. -/
def word (k : Int) : ByteArray := if 0 ≤ k ∧ k < 12 then rdOf ByteArray.empty wordsL k else ⟨#[]⟩
theorem words_ok : regimenref36_Words.f = some wordsL := rfl
theorem words_len : (wordsL.length : Int) = 12 := rfl
theorem word_ok36 (k : Int) : events_Word.f k = some (word k) := by
  unfold events_Word.f word
  split <;> rfl
theorem word_rd {k : Int} (h0 : 0 ≤ k) (h1 : k < 12) : rdOf ByteArray.empty wordsL k = word k := (if_pos ⟨h0, h1⟩).symm
theorem word_nat : ∀ i : Nat, i < 12 → (numsOf (word i)).length ≤ 6 ∧ 32 ∉ numsOf (word i) ∧ numsOf (word i) ≠ [63] ∧ (i = 0 ↔ numsOf (word i) = []) := by decide +kernel
theorem word_all (k : Int) : (word k).size ≤ 6 ∧ 32 ∉ numsOf (word k) ∧ ((word k).toList = ([] : List UInt8) ↔ ¬ (1 ≤ k ∧ k ≤ 11)) := by
  rw [toList_nil, ← nums_len]
  by_cases c : 0 ≤ k ∧ k < 12
  · obtain ⟨i, rfl⟩ : ∃ i : Nat, k = (i : Int) := ⟨k.toNat, by omega⟩
    have w := word_nat i (by omega)
    refine ⟨w.1, w.2.1, ?_⟩
    rw [← w.2.2.2]
    omega
  · have e : word k = ⟨#[]⟩ := if_neg c
    rw [e]
    refine ⟨by decide, by decide, ?_⟩
    simp only [show numsOf (⟨#[]⟩ : ByteArray) = [] from rfl, true_iff]
    omega
/-- An event's line. -/
def headW (k : Int) : ByteArray := if 1 ≤ k ∧ k ≤ 11 then word k else ⟨#[63]⟩
def lineV (k n : Int) : ByteArray := headW k ++ (⟨#[32]⟩ : ByteArray) ++ tellv n
theorem headW_all (k : Int) : (headW k).size ≤ 6 ∧ 32 ∉ numsOf (headW k) := by
  unfold headW
  split
  · exact ⟨(word_all k).1, (word_all k).2.1⟩
  · exact ⟨by decide, by decide⟩
theorem size_app (a b : ByteArray) : (a ++ b).size = a.size + b.size := ByteArray.size_append
theorem line_size {k n : Int} (h : -9223372036854775808 ≤ n ∧ n < 9223372036854775808) : (lineV k n).size ≤ 28 := by
  unfold lineV
  rw [size_app, size_app]
  have := (headW_all k).1
  have := tellv_size h
  have e : (⟨#[32]⟩ : ByteArray).size = 1 := rfl
  omega
theorem line_ok (s k : Int) {n : Int} (h : -9223372036854775808 ≤ n ∧ n < 9223372036854775808) : Ev (fun q => events_Line.f q s k n) (lineV k n) := by
  have w := word_all k
  have t := tellv_size h
  have e : (⟨#[32]⟩ : ByteArray).size = 1 := rfl
  unfold events_Line.f lineV headW
  refine evs (word_ok36 k) ?_
  by_cases c : 1 ≤ k ∧ k ≤ 11
  · rw [if_pos c]
    refine evn (fun q => w.2.2.1 q c) ?_
    refine evp (by omega) ?_
    refine Ev.bind (tell_ok h) ?_
    refine evp (by rw [size_app]; omega) ?_
    exact Ev.now _
  · rw [if_neg c]
    refine evp (w.2.2.2 c) ?_
    refine evp (by omega) ?_
    refine Ev.bind (tell_ok h) ?_
    refine evp (by rw [size_app]; have e2 : (⟨#[63]⟩ : ByteArray).size = 1 := rfl; omega) ?_
    exact Ev.now _
theorem ref_line_ok (s k : Int) {n : Int} (h : -9223372036854775808 ≤ n ∧ n < 9223372036854775808) : Ev (fun q => regimenref36_Line.f q s k n) (lineV k n) := by
  have w := word_all k
  have t := tellv_size h
  have e : (⟨#[32]⟩ : ByteArray).size = 1 := rfl
  have j : ∀ b : Bool, (b = true ↔ (1 ≤ k ∧ k ≤ 11)) → Ev (fun q => regimenref36_Line.j0 q (⟨#[63]⟩ : ByteArray) b s k n) (lineV k n) := by
    intro b hb
    refine Ev.step (fun q => by rw [regimenref36_Line.j0]) ?_
    unfold lineV headW
    by_cases c : b = true
    · have c2 := hb.1 c
      rw [if_pos c2]
      refine evp c ?_
      refine evs words_ok ?_
      refine evp (by omega) ?_
      refine evp (by rw [words_len]; omega) ?_
      rw [word_rd (by omega) (by omega)]
      refine evp (by omega) ?_
      refine Ev.bind (ref_tell_ok h) ?_
      refine evp (by rw [size_app]; omega) ?_
      exact Ev.now _
    · rw [if_neg (fun q => c (hb.2 q))]
      refine evn c ?_
      have e2 : (⟨#[63]⟩ : ByteArray).size = 1 := rfl
      refine evp (by omega) ?_
      refine Ev.bind (ref_tell_ok h) ?_
      refine evp (by rw [size_app]; omega) ?_
      exact Ev.now _
  unfold regimenref36_Line.f
  by_cases c : k ≥ 1
  · refine evp c (j _ ?_)
    rw [decide_eq_true_eq]
    omega
  · refine evn c (j _ ?_)
    simp only [Bool.false_eq_true, false_iff]
    omega
/-! ### Which event a line is -/
end Go.Proofs.Ytcgdhpnobgimfaa.Num
end
section
namespace Go.Proofs.Ytcgdhpnobgimfaa.Num
set_option linter.unusedVariables false
set_option linter.unusedSimpArgs false
open Go.RowKit Go.Proofs.Ytcgdhpnobgimfaa.PT Go.Proofs.YtcgdhpnobgimfaaW.PrintWords Go.Proofs.YtcgdhpnobgimfaaW.PrintMore

end Go.Proofs.Ytcgdhpnobgimfaa.Num
end
section
namespace Go.Proofs.Ytcgdhpnobgimfaa.Num
set_option linter.unusedVariables false
set_option linter.unusedSimpArgs false
open Go.RowKit Go.Proofs.Ytcgdhpnobgimfaa.PT Go.Proofs.YtcgdhpnobgimfaaW.PrintWords Go.Proofs.YtcgdhpnobgimfaaW.PrintMore

/-- The first n values of T. -/
def tab (T : Nat → Int) (n : Nat) : List Int := (List.range n).map T
theorem tab_length (T : Nat → Int) (n : Nat) : (tab T n).length = n := by simp [tab]
theorem tab_succ (T : Nat → Int) (n : Nat) : tab T (n + 1) = tab T n ++ [T n] := by simp [tab, List.range_succ]
def word' (x : Int) : Prop := -9223372036854775808 ≤ x ∧ x < 9223372036854775808
theorem getD_word' {l : List Int} (h : ∀ x, x ∈ l → word' x) (i : Nat) : word' (l.getD i 0) := by
  rw [List.getD_eq_getElem?_getD]
  cases c : l[i]? with
  | none => exact ⟨by simp, by simp⟩
  | some v => exact h v (List.mem_of_getElem? c)
end Go.Proofs.Ytcgdhpnobgimfaa.Num
end
section
namespace Go.Proofs.Ytcgdhpnobgimfaa.Num
set_option linter.unusedVariables false
set_option linter.unusedSimpArgs false
open Go.RowKit Go.Proofs.Ytcgdhpnobgimfaa.PT Go.Proofs.YtcgdhpnobgimfaaW.PrintWords Go.Proofs.YtcgdhpnobgimfaaW.PrintMore

/-- May a sum be? -/
def smay (c : Int) (s : List Int) : Prop := 0 ≤ c ∧ c ≤ 1048576 ∧ (c = 0 → s.length = 0)
instance (c : Int) (s : List Int) : Decidable (smay c s) := by unfold smay; infer_instance
theorem swa_check_ok (c : Int) (s : List Int) : swa_Check.f c s = some (if smay c s then 0 else 1) := by
  unfold swa_Check.f
  by_cases c1 : c < 0
  · rw [if_pos c1, if_neg (by unfold smay; omega)]
  · rw [if_neg c1]
    by_cases c2 : c > 1048576
    · rw [if_pos c2, if_neg (by unfold smay; omega)]
    · rw [if_neg c2]
      by_cases c3 : c = 0
      · rw [if_pos c3]
        by_cases c4 : (s.length : Int) > 0
        · rw [if_pos c4, if_neg (by unfold smay; omega)]
        · rw [if_neg c4, if_pos (by unfold smay; omega)]
      · rw [if_neg c3, if_pos (by unfold smay; omega)]
theorem ref_smay_ok (c : Int) (s : List Int) : regimenref34_May.f c s = some (decide (smay c s)) := by
  unfold regimenref34_May.f
  by_cases c1 : c ≥ 0
  · rw [if_pos c1]
    by_cases c2 : c ≤ 1048576
    · rw [if_pos c2]
      by_cases c3 : c > 0
      · rw [if_pos c3, decide_eq_true (by unfold smay; omega)]
      · rw [if_neg c3]
        congr 1
        by_cases c4 : s.length = 0
        · rw [decide_eq_true (by unfold smay; omega)]
          simp [c4]
        · rw [decide_eq_false (by unfold smay; omega)]
          simpa using c4
    · rw [if_neg c2, decide_eq_false (by unfold smay; omega)]
  · rw [if_neg c1, decide_eq_false (by unfold smay; omega)]
/-- A mean. -/
def meanv (c x : Int) : Int := (sgn (rnd (iabs x) c) (decide (x < 0))).1
theorem mean_rnd {c x : Int} (hx : word' x) (hc : 0 < c) : 0 ≤ rnd (iabs x) c ∧ rnd (iabs x) c ≤ 9223372036854775808 := by
  have a := iabs_nonneg x
  have b := iabs_lt hx
  refine ⟨rnd_nonneg a hc, Int.le_trans (rnd_le hc (q := iabs x) ?_) b⟩
  have := Int.mul_le_mul_of_nonneg_left (show 1 ≤ c by omega) a
  omega
theorem swa_mean_loop (c : Int) (s : List Int) (hs : ∀ x, x ∈ s → word' x) (hc : 0 < c) (hc2 : c ≤ 1048576) (hn : s.length < 1000000) (e : Nat) :
    ∀ (i : Nat), i + e = s.length → Ev (fun k => swa_Mean.l0 k (tab (fun i => meanv c (s.getD i 0)) i) s (s.length : Int) (i : Int) c s) (tab (fun i => meanv c (s.getD i 0)) s.length, 0) := by
  induction e with
  | zero =>
    intro i h
    obtain rfl : i = s.length := by omega
    refine Ev.step (fun k => by rw [swa_Mean.l0]) ?_
    exact evn (by omega) (Ev.now _)
  | succ e ih =>
    intro i h
    have nx := ih (i + 1) (by omega)
    rw [tab_succ] at nx
    have wx := getD_word' hs i
    have ab := iabs_lt wx
    have a0 := iabs_nonneg (s.getD i 0)
    have mr := mean_rnd wx hc
    have ne := half_near_ok (hi := 0) (lo := iabs (s.getD i 0)) (d := c) (by omega) (by omega) a0 (by omega) (by omega) (by omega)
    rw [show iabs (s.getD i 0) + 18446744073709551616 * 0 = iabs (s.getD i 0) from by omega, near_sgn (α := Unit) (by omega), if_pos (by omega)] at ne
    refine Ev.step (fun k => by rw [swa_Mean.l0]) ?_
    refine evp (by omega) ?_
    refine evp (by omega) ?_
    refine evp (by omega) ?_
    rw [rd_nat]
    refine evs (fix_size_ok wx) ?_
    rw [u64_id (x := c) (by omega) (by omega)]
    refine Ev.bind ne ?_
    refine Ev.bind (fix_signed_ok (decide (s.getD i 0 < 0)) mr.1 (by omega)) ?_
    refine evp (by rw [tab_length]; omega) ?_
    rw [w64_succ (by omega)]
    exact nx
theorem swa_mean_ok (c : Int) (s : List Int) (hs : ∀ x, x ∈ s → word' x) (hn : s.length < 1000000) (hm : smay c s) : Ev (fun k => swa_Mean.f k c s) (tab (fun i => meanv c (s.getD i 0)) s.length, 0) := by
  unfold swa_Mean.f
  refine evs (swa_check_ok c s) ?_
  rw [if_pos hm]
  refine evp rfl ?_
  by_cases c0 : c = 0
  · have := hm.2.2 c0
    obtain rfl : s = [] := List.eq_nil_of_length_eq_zero this
    refine Ev.step (fun k => by rw [swa_Mean.l0]) ?_
    exact evn (by simp) (Ev.now _)
  · have h0 := hm.1
    exact swa_mean_loop c s hs (by omega) hm.2.1 hn s.length 0 (by omega)
theorem swa_mean_no (c : Int) (s : List Int) (hm : ¬ smay c s) : Ev (fun k => swa_Mean.f k c s) ([], 1) := by
  unfold swa_Mean.f
  refine evs (swa_check_ok c s) ?_
  rw [if_neg hm]
  exact evn (by decide) (Ev.now _)
theorem ref_mean_loop (c : Int) (s : List Int) (hs : ∀ x, x ∈ s → word' x) (hc : 0 < c) (hc2 : c ≤ 1048576) (hn : s.length < 1000000) (e : Nat) :
    ∀ (i : Nat), i + e = s.length → Ev (fun k => regimenref34_Mean.l0 k (tab (fun i => meanv c (s.getD i 0)) i) (i : Int) c s) (tab (fun i => meanv c (s.getD i 0)) s.length) := by
  induction e with
  | zero =>
    intro i h
    obtain rfl : i = s.length := by omega
    refine Ev.step (fun k => by rw [regimenref34_Mean.l0]) ?_
    exact evn (by omega) (Ev.now _)
  | succ e ih =>
    intro i h
    have nx := ih (i + 1) (by omega)
    rw [tab_succ] at nx
    have wx := getD_word' hs i
    obtain ⟨a, ha, da, va, la⟩ := ref_size_ok wx
    obtain ⟨b, hb, db, vb, lb⟩ := ref_size_ok (x := c) ⟨by omega, by omega⟩
    rw [show iabs c = c from if_neg (by omega)] at vb
    obtain ⟨z, hz, dz, vz, lz⟩ := rounded_ok a b da db (by omega) (by omega) (by omega)
    rw [va, vb] at vz
    have sg := ref_signed_ok z dz (by omega) (decide (s.getD i 0 < 0))
    rw [vz] at sg
    refine Ev.step (fun k => by rw [regimenref34_Mean.l0]) ?_
    refine evp (by omega) ?_
    refine evp (by omega) ?_
    rw [rd_nat]
    refine evs ha ?_
    refine evs hb ?_
    refine Ev.bind hz ?_
    refine Ev.bind sg ?_
    refine evp (by rw [tab_length]; omega) ?_
    rw [w64_succ (by omega)]
    exact nx
end Go.Proofs.Ytcgdhpnobgimfaa.Num
end
section
namespace Go.Proofs.Ytcgdhpnobgimfaa.Num
set_option linter.unusedVariables false
set_option linter.unusedSimpArgs false
open Go.RowKit Go.Proofs.Ytcgdhpnobgimfaa.PT Go.Proofs.YtcgdhpnobgimfaaW.PrintWords Go.Proofs.YtcgdhpnobgimfaaW.PrintMore

/-- A number's decimal. -/
noncomputable def decS (x : Int) : ByteArray := strOfNums (putl x (Classical.choose (fewest_ex (f := iabs x % 4294967296))))
theorem dput_ok {x : Int} (hx : word' x) : Ev (fun k => dec_Put.f k x) (decS x) := dec_put_ok hx (Classical.choose_spec fewest_ex)
theorem rput_ok {x : Int} (hx : word' x) : Ev (fun k => regimenref05_Put.f k x) (decS x) := ref_put_ok hx (Classical.choose_spec fewest_ex)
theorem decS_size {x : Int} (hx : word' x) : (decS x).size ≤ 100 := by
  unfold decS
  have h := Classical.choose_spec (fewest_ex (f := iabs x % 4294967296))
  generalize Classical.choose (fewest_ex (f := iabs x % 4294967296)) = n at h
  have := (putl_byte x n hx).2
  have := h.1
  rw [strOfNums_size]
  omega
/-- Words, a blank ahead of each. -/
def tailS : List ByteArray → ByteArray
  | [] => ⟨#[]⟩
  | b :: l => (⟨#[32]⟩ : ByteArray) ++ b ++ tailS l
theorem tailS_size {l : List ByteArray} (h : ∀ b, b ∈ l → b.size ≤ 100) : (tailS l).size ≤ 101 * l.length := by
  induction l with
  | nil => exact Nat.le_refl _
  | cons b l ih =>
    have := ih fun c hc => h c (List.mem_cons_of_mem _ hc)
    have := h b List.mem_cons_self
    have e : (⟨#[32]⟩ : ByteArray).size = 1 := rfl
    rw [tailS, size_app, size_app, List.length_cons]
    omega
theorem ba_ext {a b : ByteArray} (h : a.data.toList = b.data.toList) : a = b := by
  cases a
  cases b
  simpa using h
theorem ba_app (a b : ByteArray) : (a ++ b).data.toList = a.data.toList ++ b.data.toList := by simp
theorem app_assoc (a b c : ByteArray) : a ++ b ++ c = a ++ (b ++ c) := ba_ext (by simp only [ba_app, List.append_assoc])
theorem app_nil (a : ByteArray) : a ++ (⟨#[]⟩ : ByteArray) = a := ba_ext (by rw [ba_app]; exact List.append_nil _)
theorem join_tail (b : ByteArray) (l : List ByteArray) : (⟨(Lib.join ((b :: l).map (·.data.toList)) [32]).toArray⟩ : ByteArray) = b ++ tailS l := by
  induction l generalizing b with
  | nil =>
    refine ba_ext ?_
    rw [tailS, app_nil]
    simp [Lib.join]
  | cons c l ih =>
    refine ba_ext ?_
    have := congrArg (fun x : ByteArray => x.data.toList) (ih c)
    simp only [ba_app] at this
    rw [tailS, ba_app, ba_app, ba_app, List.append_assoc, ← this]
    simp [Lib.join, List.intercalate]
theorem line_join {b : ByteArray} {l : List ByteArray} (hb : b.size ≤ 100) (hl : l.length ≤ 1000) (h : ∀ b, b ∈ l → b.size ≤ 100) : output_line.f (b :: l) = some (b ++ tailS l) := by
  have e := join_tail b l
  have z : (Lib.join ((b :: l).map (·.data.toList)) [32]).length = b.size + (tailS l).size := by
    rw [← size_app, ← e]
    exact List.size_toArray.symm
  have := tailS_size h
  unfold output_line.f strings_Join.f
  have e2 : (⟨#[32]⟩ : ByteArray).data.toList = [32] := rfl
  rw [e2, if_pos ⟨by rw [List.length_cons]; omega, by rw [z]; omega⟩, e]
  rfl
theorem getD_get {l : List Int} {i : Nat} (h : i < l.length) : l.getD i 0 = l[i] := by rw [List.getD_eq_getElem?_getD, List.getElem?_eq_getElem h]; rfl
/-- Numbers' decimals. -/
noncomputable def decL (l : List Int) : List ByteArray := l.map decS
theorem dec_loop (l : List Int) (hl : ∀ x, x ∈ l → word' x) (hn : l.length < 1000000) (e : Nat) : ∀ i : Nat, i + e = l.length →
    Ev (fun k => output_decimals.l0 k ((l.take i).map decS) l (l.length : Int) (i : Int)) (decL l) := by
  induction e with
  | zero =>
    intro i h
    refine Ev.step (fun k => by rw [output_decimals.l0]) ?_
    refine evn (by omega) ?_
    rw [List.take_of_length_le (by omega)]
    exact Ev.now _
  | succ e ih =>
    intro i h
    refine Ev.step (fun k => by rw [output_decimals.l0]) ?_
    refine evp (by omega) ?_
    refine evp (by omega) ?_
    refine evp (by omega) ?_
    rw [rd_nat]
    refine Ev.bind (dput_ok (getD_word' hl i)) ?_
    refine evp (by rw [List.length_map, List.length_take]; omega) ?_
    rw [w64_succ (by omega)]
    have := ih (i + 1) (by omega)
    rw [List.take_add_one, List.getElem?_eq_getElem (by omega), List.map_append] at this
    rw [getD_get (by omega)]
    exact this
theorem decs_ok {l : List Int} (hl : ∀ x, x ∈ l → word' x) (hn : l.length < 1000000) : Ev (fun k => output_decimals.f k l) (decL l) := by
  unfold output_decimals.f
  exact dec_loop l hl hn l.length 0 (by omega)
theorem decL_size {l : List Int} (hl : ∀ x, x ∈ l → word' x) : ∀ b, b ∈ decL l → b.size ≤ 100 := by
  intro b hb
  obtain ⟨x, hx, rfl⟩ := List.mem_map.1 hb
  exact decS_size (hl x hx)
theorem decL_len (l : List Int) : (decL l).length = l.length := List.length_map _
theorem tailS_app (a b : List ByteArray) : tailS (a ++ b) = tailS a ++ tailS b := by
  induction a with
  | nil =>
    refine ba_ext ?_
    rw [ba_app]
    rfl
  | cons x a ih => rw [List.cons_append, tailS, tailS, ih, app_assoc, app_assoc, app_assoc]
theorem tail_loop (l : List Int) (hl : ∀ x, x ∈ l → word' x) (hn : l.length < 1000000) (e : Nat) : ∀ i : Nat, i + e = l.length →
    Ev (fun k => regimenref45_tail.l0 k l (tailS (decL (l.take i))) (i : Int)) (tailS (decL l)) := by
  induction e with
  | zero =>
    intro i h
    refine Ev.step (fun k => by rw [regimenref45_tail.l0]) ?_
    refine evn (by omega) ?_
    rw [List.take_of_length_le (by omega)]
    exact Ev.now _
  | succ e ih =>
    intro i h
    have z := tailS_size (decL_size (l := l.take i) fun x hx => hl x (List.mem_of_mem_take hx))
    rw [decL_len, List.length_take] at z
    have z1 := decS_size (getD_word' hl i)
    refine Ev.step (fun k => by rw [regimenref45_tail.l0]) ?_
    refine evp (by omega) ?_
    refine evp (by omega) ?_
    refine evp (by omega) ?_
    rw [rd_nat]
    refine Ev.bind (rput_ok (getD_word' hl i)) ?_
    refine evp (by rw [size_app, show (⟨#[32]⟩ : ByteArray).size = 1 from rfl]; omega) ?_
    rw [w64_succ (by omega)]
    have := ih (i + 1) (by omega)
    rw [List.take_add_one, List.getElem?_eq_getElem (by omega), decL, List.map_append, tailS_app] at this
    rw [getD_get (by omega), app_assoc]
    simp only [Option.toList, List.map_cons, List.map_nil, tailS, app_nil] at this
    exact this
theorem tail_ok {l : List Int} (hl : ∀ x, x ∈ l → word' x) (hn : l.length < 1000000) : Ev (fun k => regimenref45_tail.f k l) (tailS (decL l)) := by
  unfold regimenref45_tail.f
  exact tail_loop l hl hn l.length 0 (by omega)
/-- A status' word. -/
def wordS (a : Int) : ByteArray := if a = 0 then (⟨#[103, 111, 101, 115]⟩ : ByteArray) else if a = 1 then (⟨#[100, 111, 110, 101]⟩ : ByteArray) else if a = 2 then (⟨#[115, 116, 111, 112, 112, 101, 100]⟩ : ByteArray) else if a = 3 then (⟨#[102, 97, 105, 108, 101, 100]⟩ : ByteArray) else (⟨#[63]⟩ : ByteArray)
theorem oword_ok (a : Int) : output_Word.f a = some (wordS a) := by
  unfold wordS output_Word.f
  repeat' split
  all_goals rfl
theorem rword_ok (a : Int) : regimenref45_Word.f a = some (wordS a) := by
  unfold wordS regimenref45_Word.f
  by_cases h : a < 0
  · rw [if_pos h, if_neg (by omega), if_neg (by omega), if_neg (by omega), if_neg (by omega)]
  · rw [if_neg h]
    by_cases h3 : a > 3
    · rw [if_pos h3, if_neg (by omega), if_neg (by omega), if_neg (by omega), if_neg (by omega)]
    · rw [if_neg h3]
      obtain rfl | rfl | rfl | rfl : a = 0 ∨ a = 1 ∨ a = 2 ∨ a = 3 := by omega
      all_goals rfl
theorem wordS_size (a : Int) : (wordS a).size ≤ 10 := by
  unfold wordS
  repeat' split
  all_goals decide
end Go.Proofs.Ytcgdhpnobgimfaa.Num
end
section
namespace Go.Proofs.Ytcgdhpnobgimfaa.Num
set_option linter.unusedVariables false
set_option linter.unusedSimpArgs false
open Go.RowKit Go.Proofs.Ytcgdhpnobgimfaa.PT Go.Proofs.YtcgdhpnobgimfaaW.PrintWords Go.Proofs.YtcgdhpnobgimfaaW.PrintMore

abbrev EvT := Int × Int × Int × Unit
abbrev OutT := Int × Int × (List Int) × (List Bool) × (List EvT) × Int × Unit
theorem tellv_100 {n : Int} (h : word' n) : (tellv n).size ≤ 100 := Nat.le_trans (tellv_size h) (by decide)
theorem sz_one : (⟨#[32]⟩ : ByteArray).size = 1 := rfl
theorem sz_two : (⟨#[32, 32]⟩ : ByteArray).size = 2 := rfl
/-- The words of a group's line behind its number. -/
noncomputable def grpW (o : OutT) (i : Nat) : List ByteArray := decL ((o.2.2.1.take (3 * i + 3)).drop (3 * i)) ++ (if i < o.2.2.2.1.length ∧ o.2.2.2.1.getD i false = true then [(⟨#[102, 114, 111, 122, 101, 110]⟩ : ByteArray)] else [])
noncomputable def grpS (o : OutT) (i : Nat) : ByteArray := (⟨#[32, 32, 103, 114, 111, 117, 112]⟩ : ByteArray) ++ tailS (tellv (i : Int) :: grpW o i)
def evS (e : EvT) : ByteArray := (⟨#[32, 32]⟩ : ByteArray) ++ lineV e.2.1 e.2.2.1
def headS (o : OutT) : ByteArray := (⟨#[115, 116, 101, 112]⟩ : ByteArray) ++ tailS [tellv o.1, (⟨#[112, 104, 97, 115, 101]⟩ : ByteArray), tellv o.2.1, wordS o.2.2.2.2.2.1]
/-- What a step is made of. -/
structure OutOk (o : OutT) : Prop where
  step : word' o.1
  phase : word' o.2.1
  vals : ∀ x, x ∈ o.2.2.1 → word' x
  nv : o.2.2.1.length ≤ 600
  nf : o.2.2.2.1.length ≤ 600
  ne : o.2.2.2.2.1.length ≤ 600
  evs : ∀ e, e ∈ o.2.2.2.2.1 → word' e.2.2.1
noncomputable def stepL (o : OutT) : List ByteArray := [headS o] ++ (List.range' 0 (o.2.2.1.length / 3)).map (grpS o) ++ (o.2.2.2.2.1.drop 0).map evS
section
variable {o : OutT} (ok : OutOk o)
include ok
theorem grp_vals {i : Nat} : ∀ x, x ∈ (o.2.2.1.take (3 * i + 3)).drop (3 * i) → word' x := fun x hx => ok.vals x (List.mem_of_mem_take (List.mem_of_mem_drop hx))
theorem grp_len {i : Nat} : ((o.2.2.1.take (3 * i + 3)).drop (3 * i)).length ≤ 3 := by
  rw [List.length_drop, List.length_take]
  have := ok.nv
  omega
theorem group_ok {i : Nat} (h : 3 * i + 3 ≤ o.2.2.1.length) : Ev (fun k => output_group_s.f k o (i : Int)) (grpS o i) := by
  have nv := ok.nv
  have g := grp_len ok (i := i)
  have gv := grp_vals ok (i := i)
  unfold output_group_s.f
  refine Ev.bind (tell_ok (by omega)) ?_
  have e1 : wrap64 ((3 : Int) * (i : Int)) = ((3 * i : Nat) : Int) := by rw [w64_id (by omega) (by omega)]; omega
  have e2 : wrap64 ((3 : Int) * (wrap64 ((i : Int) + (1 : Int)))) = ((3 * i + 3 : Nat) : Int) := by rw [w64_id (x := (i : Int) + 1) (by omega) (by omega), w64_id (by omega) (by omega)]; omega
  rw [e1, e2]
  refine evp (by omega) ?_
  refine evp (by omega) ?_
  refine evp (by omega) ?_
  have dk := decs_ok gv (by omega)
  refine Ev.bind dk ?_
  refine evp (by rw [decL_len]; simp only [List.length_cons, List.length_nil, Int.toNat_natCast]; omega) ?_
  have fin : ∀ l : List ByteArray, l.length ≤ 100 → (∀ b, b ∈ l → b.size ≤ 100) → Ev (fun k => output_group_s.j4 k ((⟨#[32, 32, 103, 114, 111, 117, 112]⟩ : ByteArray) :: l)) ((⟨#[32, 32, 103, 114, 111, 117, 112]⟩ : ByteArray) ++ tailS l) := by
    intro l hl hb
    refine Ev.step (fun k => by rw [output_group_s.j4]) ?_
    refine evs (line_join (by decide) (by omega) hb) ?_
    exact Ev.now _
  have hb : ∀ b, b ∈ tellv (i : Int) :: grpW o i → b.size ≤ 100 := by
    intro b h
    rcases List.mem_cons.1 h with rfl | h
    · exact tellv_100 (by unfold word'; omega)
    · unfold grpW at h
      rcases List.mem_append.1 h with h | h
      · exact decL_size gv b h
      · split at h
        · rw [List.mem_singleton.1 h]
          decide
        · cases h
  have hl : (tellv (i : Int) :: grpW o i).length ≤ 100 := by
    unfold grpW
    rw [List.length_cons, List.length_append, decL_len]
    split <;> simp only [List.length_cons, List.length_nil] <;> omega
  have key := fin _ hl hb
  unfold grpS
  unfold grpW at key ⊢
  by_cases c : i < o.2.2.2.1.length
  · refine evp (by omega) ?_
    refine evp (by omega) ?_
    refine evp (by omega) ?_
    by_cases c2 : o.2.2.2.1.getD i false = true
    · rw [if_pos ⟨c, c2⟩] at key ⊢
      refine evp c2 ?_
      refine evp (by simp only [List.length_append, List.length_cons, List.length_nil, decL_len, Int.toNat_natCast]; omega) ?_
      exact key
    · rw [if_neg (fun h => c2 h.2)] at key ⊢
      refine evn c2 ?_
      rw [List.append_nil] at key ⊢
      exact key
  · rw [if_neg (fun h => c h.1)] at key ⊢
    refine evn (by omega) ?_
    rw [List.append_nil] at key ⊢
    exact key
end
end Go.Proofs.Ytcgdhpnobgimfaa.Num
end
section
namespace Go.Proofs.Ytcgdhpnobgimfaa.Num
set_option linter.unusedVariables false
set_option linter.unusedSimpArgs false
open Go.RowKit Go.Proofs.Ytcgdhpnobgimfaa.PT Go.Proofs.YtcgdhpnobgimfaaW.PrintWords Go.Proofs.YtcgdhpnobgimfaaW.PrintMore

theorem drop_cons {α : Type} {l : List α} {i : Nat} (d : α) (h : i < l.length) : l.drop i = l.getD i d :: l.drop (i + 1) := by
  rw [List.drop_eq_getElem_cons h, List.getD_eq_getElem?_getD, List.getElem?_eq_getElem h]
  rfl
theorem mem_getD {α : Type} {l : List α} {i : Nat} (d : α) (h : i < l.length) : l.getD i d ∈ l := by
  rw [List.getD_eq_getElem?_getD, List.getElem?_eq_getElem h]
  exact List.getElem_mem h
theorem step_l8 (es : List EvT) (he : ∀ e, e ∈ es → word' e.2.2.1) (hn : es.length ≤ 600) (d : Nat) : ∀ (i : Nat) (acc : List ByteArray), i + d = es.length → acc.length + d ≤ 100000 →
    Ev (fun k => output_Step_s.l8 k acc es (es.length : Int) (i : Int)) (acc ++ (es.drop i).map evS) := by
  induction d with
  | zero =>
    intro i acc h ha
    refine Ev.step (fun k => by rw [output_Step_s.l8]) ?_
    refine evn (by omega) ?_
    rw [List.drop_eq_nil_of_le (by omega), List.map_nil, List.append_nil]
    exact Ev.now _
  | succ d ih =>
    intro i acc h ha
    have hw := he _ (mem_getD (0, 0, 0, ()) (i := i) (by omega : i < es.length))
    have z := line_size (k := (es.getD i (0, 0, 0, ())).2.1) hw
    refine Ev.step (fun k => by rw [output_Step_s.l8]) ?_
    refine evp (by omega) ?_
    refine evp (by omega) ?_
    refine evp (by omega) ?_
    refine Ev.bind (line_ok _ _ hw) ?_
    refine evp (by rw [sz_two]; simp only [Int.toNat_natCast]; omega) ?_
    refine evp (by simp only [List.length_cons, List.length_nil]; omega) ?_
    rw [w64_succ (by omega)]
    have := ih (i + 1) (acc ++ [evS (es.getD i (0, 0, 0, ()))]) (by omega) (by simp only [List.length_append, List.length_cons, List.length_nil]; omega)
    rw [List.append_assoc] at this
    rw [drop_cons (0, 0, 0, ()) (by omega : i < es.length), List.map_cons]
    exact this
section
variable {o : OutT} (ok : OutOk o)
include ok
theorem step_l3 (n : Nat) (hn : 3 * n ≤ o.2.2.1.length) (d : Nat) : ∀ (i : Nat) (acc : List ByteArray), i + d = n → acc.length + d ≤ 10000 →
    Ev (fun k => output_Step_s.l3 k acc (n : Int) (i : Int) o) (acc ++ (List.range' i d).map (grpS o) ++ (o.2.2.2.2.1.drop 0).map evS) := by
  have nv := ok.nv
  have ne := ok.ne
  induction d with
  | zero =>
    intro i acc h ha
    refine Ev.step (fun k => by rw [output_Step_s.l3]) ?_
    refine evn (by omega) ?_
    rw [List.range'_zero, List.map_nil, List.append_nil]
    exact step_l8 _ ok.evs ne o.2.2.2.2.1.length 0 acc (by omega) (by omega)
  | succ d ih =>
    intro i acc h ha
    refine Ev.step (fun k => by rw [output_Step_s.l3]) ?_
    refine evp (by omega) ?_
    refine Ev.bind (group_ok ok (by omega)) ?_
    refine evp (by simp only [List.length_cons, List.length_nil]; omega) ?_
    rw [w64_succ (by omega)]
    have := ih (i + 1) (acc ++ [grpS o i]) (by omega) (by simp only [List.length_append, List.length_cons, List.length_nil]; omega)
    rw [List.range'_succ, List.map_cons]
    simp only [List.append_assoc, List.cons_append, List.nil_append] at this ⊢
    exact this
theorem step_ok : Ev (fun k => output_Step_s.f k o) (stepL o) := by
  have nv := ok.nv
  unfold output_Step_s.f
  refine Ev.bind (tell_ok ok.step) ?_
  refine Ev.bind (tell_ok ok.phase) ?_
  refine evs (oword_ok _) ?_
  have hb : ∀ b, b ∈ [tellv o.1, (⟨#[112, 104, 97, 115, 101]⟩ : ByteArray), tellv o.2.1, wordS o.2.2.2.2.2.1] → b.size ≤ 100 := by
    intro b h
    simp only [List.mem_cons, List.not_mem_nil, or_false] at h
    rcases h with rfl | rfl | rfl | rfl
    · exact tellv_100 ok.step
    · decide
    · exact tellv_100 ok.phase
    · exact Nat.le_trans (wordS_size _) (by decide)
  refine evs (line_join (by decide) (by simp only [List.length_cons, List.length_nil]; omega) hb) ?_
  refine evn (by decide) ?_
  have e : wrap64 (Int.tdiv (o.2.2.1.length : Int) (3 : Int)) = ((o.2.2.1.length / 3 : Nat) : Int) := by
    rw [Int.tdiv_eq_ediv_of_nonneg (by omega), w64_id (by omega) (by omega)]
    omega
  rw [e]
  exact step_l3 ok (o.2.2.1.length / 3) (by omega) (o.2.2.1.length / 3) 0 _ (by omega) (by simp only [List.length_cons, List.length_nil]; omega)
end
end Go.Proofs.Ytcgdhpnobgimfaa.Num
end
section
namespace Go.Proofs.Ytcgdhpnobgimfaa.Num
set_option linter.unusedVariables false
set_option linter.unusedSimpArgs false
open Go.RowKit Go.Proofs.Ytcgdhpnobgimfaa.PT Go.Proofs.YtcgdhpnobgimfaaW.PrintWords Go.Proofs.YtcgdhpnobgimfaaW.PrintMore

theorem rstep_l10 (o : OutT) (he : ∀ e, e ∈ o.2.2.2.2.1 → word' e.2.2.1) (hn : o.2.2.2.2.1.length ≤ 600) (d : Nat) : ∀ (i : Nat) (acc : List ByteArray), i + d = o.2.2.2.2.1.length → acc.length + d ≤ 100000 →
    Ev (fun k => regimenref45_Step_s.l10 k acc (i : Int) o) (acc ++ (o.2.2.2.2.1.drop i).map evS) := by
  induction d with
  | zero =>
    intro i acc h ha
    refine Ev.step (fun k => by rw [regimenref45_Step_s.l10]) ?_
    refine evn (by omega) ?_
    rw [List.drop_eq_nil_of_le (by omega), List.map_nil, List.append_nil]
    exact Ev.now _
  | succ d ih =>
    intro i acc h ha
    have hw := he _ (mem_getD (0, 0, 0, ()) (i := i) (by omega : i < o.2.2.2.2.1.length))
    have z := line_size (k := (o.2.2.2.2.1.getD i (0, 0, 0, ())).2.1) hw
    refine Ev.step (fun k => by rw [regimenref45_Step_s.l10]) ?_
    refine evp (by omega) ?_
    refine evp (by omega) ?_
    refine evp (by omega) ?_
    refine Ev.bind (ref_line_ok _ _ hw) ?_
    refine evp (by rw [sz_two]; simp only [Int.toNat_natCast]; omega) ?_
    refine evp (by simp only [List.length_cons, List.length_nil]; omega) ?_
    rw [w64_succ (by omega)]
    have := ih (i + 1) (acc ++ [evS (o.2.2.2.2.1.getD i (0, 0, 0, ()))]) (by omega) (by simp only [List.length_append, List.length_cons, List.length_nil]; omega)
    rw [List.append_assoc] at this
    rw [drop_cons (0, 0, 0, ()) (by omega : i < o.2.2.2.2.1.length), List.map_cons]
    exact this
section
variable {o : OutT} (ok : OutOk o)
include ok
theorem rstep_l3 (d : Nat) : ∀ (i : Nat) (acc : List ByteArray), i + d = o.2.2.1.length / 3 → acc.length + d ≤ 10000 →
    Ev (fun k => regimenref45_Step_s.l3 k acc (i : Int) o) (acc ++ (List.range' i d).map (grpS o) ++ (o.2.2.2.2.1.drop 0).map evS) := by
  have nv := ok.nv
  have ne := ok.ne
  induction d with
  | zero =>
    intro i acc h ha
    refine Ev.step (fun k => by rw [regimenref45_Step_s.l3]) ?_
    have e1 : wrap64 (wrap64 ((3 : Int) * (i : Int)) + (2 : Int)) = ((3 * i + 2 : Nat) : Int) := by rw [w64_id (x := (3 : Int) * (i : Int)) (by omega) (by omega), w64_id (by omega) (by omega)]; omega
    rw [e1]
    refine evn (by omega) ?_
    rw [List.range'_zero, List.map_nil, List.append_nil]
    exact rstep_l10 o ok.evs ne o.2.2.2.2.1.length 0 acc (by omega) (by omega)
  | succ d ih =>
    intro i acc h ha
    have g := grp_len ok (i := i)
    have gv := grp_vals ok (i := i)
    have ti : word' (i : Int) := by unfold word'; omega
    have zt := tellv_100 ti
    have zd := tailS_size (decL_size gv)
    rw [decL_len] at zd
    have c8 : (⟨#[32, 32, 103, 114, 111, 117, 112, 32]⟩ : ByteArray).size = 8 := rfl
    have c7 : (⟨#[32, 102, 114, 111, 122, 101, 110]⟩ : ByteArray).size = 7 := rfl
    refine Ev.step (fun k => by rw [regimenref45_Step_s.l3]) ?_
    have e0 : wrap64 ((3 : Int) * (i : Int)) = ((3 * i : Nat) : Int) := by rw [w64_id (by omega) (by omega)]; omega
    have e1 : wrap64 (((3 * i : Nat) : Int) + (2 : Int)) = ((3 * i + 2 : Nat) : Int) := by rw [w64_id (by omega) (by omega)]; omega
    have e2 : wrap64 (((3 * i : Nat) : Int) + (3 : Int)) = ((3 * i + 3 : Nat) : Int) := by rw [w64_id (by omega) (by omega)]; omega
    rw [e0, e1, e2]
    refine evp (by omega) ?_
    refine Ev.bind (ref_tell_ok ti) ?_
    refine evp (by omega) ?_
    refine evp (by omega) ?_
    refine evp (by omega) ?_
    refine evp (by omega) ?_
    have dk := tail_ok gv (by omega)
    refine Ev.bind dk ?_
    refine evp (by rw [size_app]; omega) ?_
    have fin : ∀ s : ByteArray, s = grpS o i → Ev (fun k => regimenref45_Step_s.j8 k acc (i : Int) s o) (acc ++ (List.range' i (d + 1)).map (grpS o) ++ (o.2.2.2.2.1.drop 0).map evS) := by
      rintro s rfl
      refine Ev.step (fun k => by rw [regimenref45_Step_s.j8]) ?_
      refine evp (by simp only [List.length_cons, List.length_nil]; omega) ?_
      refine Ev.step (fun k => by rw [regimenref45_Step_s.j4]) ?_
      rw [w64_succ (by omega)]
      have := ih (i + 1) (acc ++ [grpS o i]) (by omega) (by simp only [List.length_append, List.length_cons, List.length_nil]; omega)
      rw [List.range'_succ, List.map_cons]
      simp only [List.append_assoc, List.cons_append, List.nil_append] at this ⊢
      exact this
    have e8 : (⟨#[32, 32, 103, 114, 111, 117, 112, 32]⟩ : ByteArray) = (⟨#[32, 32, 103, 114, 111, 117, 112]⟩ : ByteArray) ++ (⟨#[32]⟩ : ByteArray) := rfl
    have e7 : (⟨#[32, 102, 114, 111, 122, 101, 110]⟩ : ByteArray) = tailS [(⟨#[102, 114, 111, 122, 101, 110]⟩ : ByteArray)] := rfl
    by_cases c : i < o.2.2.2.1.length
    · refine evp (by omega) ?_
      refine evp (by omega) ?_
      refine evp (by omega) ?_
      by_cases c2 : o.2.2.2.1.getD i false = true
      · refine evp c2 ?_
        refine evp (by rw [size_app, size_app]; omega) ?_
        refine fin _ ?_
        unfold grpS grpW
        rw [if_pos ⟨c, c2⟩, tailS, tailS_app, e8, e7]
        simp only [app_assoc]
      · refine evn c2 ?_
        refine fin _ ?_
        unfold grpS grpW
        rw [if_neg (fun h => c2 h.2), List.append_nil, tailS, e8]
        simp only [app_assoc]
    · refine evn (by omega) ?_
      refine fin _ ?_
      unfold grpS grpW
      rw [if_neg (fun h => c h.1), List.append_nil, tailS, e8]
      simp only [app_assoc]
theorem rstep_ok : Ev (fun k => regimenref45_Step_s.f k o) (stepL o) := by
  have nv := ok.nv
  have z1 := tellv_100 ok.step
  have z2 := tellv_100 ok.phase
  have z3 := wordS_size o.2.2.2.2.2.1
  have c5 : (⟨#[115, 116, 101, 112, 32]⟩ : ByteArray).size = 5 := rfl
  have c7 : (⟨#[32, 112, 104, 97, 115, 101, 32]⟩ : ByteArray).size = 7 := rfl
  have c1 := sz_one
  unfold regimenref45_Step_s.f
  refine Ev.bind (ref_tell_ok ok.step) ?_
  refine evp (by omega) ?_
  refine evp (by rw [size_app]; omega) ?_
  refine Ev.bind (ref_tell_ok ok.phase) ?_
  refine evp (by rw [size_app, size_app]; omega) ?_
  refine evp (by rw [size_app, size_app, size_app]; omega) ?_
  refine evs (rword_ok _) ?_
  refine evp (by rw [size_app, size_app, size_app, size_app]; omega) ?_
  have e : (⟨#[115, 116, 101, 112, 32]⟩ : ByteArray) ++ tellv o.1 ++ (⟨#[32, 112, 104, 97, 115, 101, 32]⟩ : ByteArray) ++ tellv o.2.1 ++ (⟨#[32]⟩ : ByteArray) ++ wordS o.2.2.2.2.2.1 = headS o := by
    have e5 : (⟨#[115, 116, 101, 112, 32]⟩ : ByteArray) = (⟨#[115, 116, 101, 112]⟩ : ByteArray) ++ (⟨#[32]⟩ : ByteArray) := rfl
    have e7 : (⟨#[32, 112, 104, 97, 115, 101, 32]⟩ : ByteArray) = (⟨#[32]⟩ : ByteArray) ++ (⟨#[112, 104, 97, 115, 101]⟩ : ByteArray) ++ (⟨#[32]⟩ : ByteArray) := rfl
    unfold headS
    rw [e5, e7]
    simp only [tailS, app_assoc, app_nil]
  rw [e]
  exact rstep_l3 ok (o.2.2.1.length / 3) 0 _ (by omega) (by simp only [List.length_cons, List.length_nil]; omega)
end
end Go.Proofs.Ytcgdhpnobgimfaa.Num
end
section
namespace Go.Proofs.Ytcgdhpnobgimfaa.Num
set_option linter.unusedVariables false
set_option linter.unusedSimpArgs false
open Go.RowKit Go.Proofs.Ytcgdhpnobgimfaa.PT Go.Proofs.YtcgdhpnobgimfaaW.PrintWords Go.Proofs.YtcgdhpnobgimfaaW.PrintMore

abbrev KeptT := Int × Int × Unit
abbrev StateT := Int × Int × Int × (Bool × Int × Int × Unit) × ((Bool × Int × Int × Unit) × Int × Int × Unit) × (List KeptT) × (List Int) × (Int × (List Int) × Unit) × Unit
abbrev kepts (s : StateT) : List KeptT := s.2.2.2.2.2.1
abbrev emas (s : StateT) : List Int := s.2.2.2.2.2.2.1
abbrev swc (s : StateT) : Int := s.2.2.2.2.2.2.2.1.1
abbrev sws (s : StateT) : List Int := s.2.2.2.2.2.2.2.1.2.1
def headT (s : StateT) : ByteArray := (⟨#[115, 116, 97, 116, 101]⟩ : ByteArray) ++ tailS [wordS s.2.1, tellv s.1]
noncomputable def keptS (k : KeptT) : ByteArray := (⟨#[107, 101, 112, 116]⟩ : ByteArray) ++ tailS [tellv k.1, decS k.2.1]
noncomputable def emaP (s : StateT) : List ByteArray := if 0 < (emas s).length then [(⟨#[101, 109, 97]⟩ : ByteArray) ++ tailS (decL (emas s))] else []
def meanL (s : StateT) : List Int := tab (fun i => meanv (swc s) ((sws s).getD i 0)) (sws s).length
open Classical in
noncomputable def swaP (s : StateT) : List ByteArray := if smay (swc s) (sws s) ∧ 0 < swc s then [(⟨#[115, 119, 97]⟩ : ByteArray) ++ tailS (tellv (swc s) :: decL (meanL s))] else []
structure StateOk (s : StateT) : Prop where
  step : word' s.1
  kept1 : ∀ k, k ∈ kepts s → word' k.1
  kept2 : ∀ k, k ∈ kepts s → word' k.2.1
  nk : (kepts s).length ≤ 30
  ema : ∀ x, x ∈ emas s → word' x
  ne : (emas s).length ≤ 30
  cnt : word' (swc s)
  sums : ∀ x, x ∈ sws s → word' x
  ns : (sws s).length ≤ 30
noncomputable def stateL (s : StateT) : List ByteArray := [headT s] ++ ((kepts s).drop 0).map keptS ++ emaP s ++ swaP s
section
variable {s : StateT} (ok : StateOk s)
include ok
theorem state_j9 (acc : List ByteArray) (ha : acc.length ≤ 1000) (hm0 : 0 < swc s → ∀ x, x ∈ meanL s → word' x) : Ev (fun k => output_State_s.j9 k acc s) (acc ++ swaP s) := by
  have ns := ok.ns
  refine Ev.step (fun k => by rw [output_State_s.j9]) ?_
  by_cases m : smay (swc s) (sws s)
  · have e := swa_mean_ok (swc s) (sws s) ok.sums (by omega) m
    refine Ev.bind e ?_
    refine evp rfl ?_
    by_cases c : 0 < swc s
    · have hm := hm0 c
      refine evp c ?_
      refine Ev.bind (tell_ok ok.cnt) ?_
      have dk := decs_ok hm (by unfold meanL; rw [tab_length]; omega)
      refine Ev.bind dk ?_
      have ml : (meanL s).length ≤ 30 := by unfold meanL; rw [tab_length]; omega
      refine evp (by rw [decL_len]; simp only [List.length_cons, List.length_nil]; omega) ?_
      have lj := line_join (b := (⟨#[115, 119, 97]⟩ : ByteArray)) (l := tellv (swc s) :: decL (meanL s)) (by decide) (by rw [List.length_cons, decL_len]; omega) (by
        intro b h
        rcases List.mem_cons.1 h with rfl | h
        · exact tellv_100 ok.cnt
        · exact decL_size hm b h)
      refine evs lj ?_
      refine evp (by simp only [List.length_cons, List.length_nil]; omega) ?_
      refine Ev.step (fun k => by rw [output_State_s.j12]) ?_
      unfold swaP
      rw [if_pos ⟨m, c⟩]
      exact Ev.now _
    · refine evn c ?_
      refine Ev.step (fun k => by rw [output_State_s.j12]) ?_
      unfold swaP
      rw [if_neg (fun h => c h.2), List.append_nil]
      exact Ev.now _
  · refine Ev.bind (swa_mean_no (swc s) (sws s) m) ?_
    refine evn (by decide) ?_
    refine Ev.step (fun k => by rw [output_State_s.j12]) ?_
    unfold swaP
    rw [if_neg (fun h => m h.1), List.append_nil]
    exact Ev.now _
end
end Go.Proofs.Ytcgdhpnobgimfaa.Num
end
section
namespace Go.Proofs.Ytcgdhpnobgimfaa.Num
set_option linter.unusedVariables false
set_option linter.unusedSimpArgs false
open Go.RowKit Go.Proofs.Ytcgdhpnobgimfaa.PT Go.Proofs.YtcgdhpnobgimfaaW.PrintWords Go.Proofs.YtcgdhpnobgimfaaW.PrintMore

section
variable {s : StateT} (ok : StateOk s)
include ok
theorem mean_word (h0 : 0 < swc s) : ∀ x, x ∈ meanL s → word' x := by
  intro x hx
  unfold meanL tab at hx
  obtain ⟨i, _, rfl⟩ := List.mem_map.1 hx
  have m := mean_rnd (c := swc s) (getD_word' ok.sums i) h0
  unfold meanv sgn word'
  repeat' split
  all_goals (dsimp only; omega)
theorem state_l3 (hj : ∀ acc : List ByteArray, acc.length ≤ 1000 → Ev (fun k => output_State_s.j9 k acc s) (acc ++ swaP s)) (d : Nat) : ∀ (i : Nat) (acc : List ByteArray), i + d = (kepts s).length → acc.length + d ≤ 900 →
    Ev (fun k => output_State_s.l3 k acc (kepts s) ((kepts s).length : Int) (i : Int) s) (acc ++ ((kepts s).drop i).map keptS ++ emaP s ++ swaP s) := by
  have nk := ok.nk
  have ne := ok.ne
  have ne' : s.2.2.2.2.2.2.1.length ≤ 30 := ne
  induction d with
  | zero =>
    intro i acc h ha
    refine Ev.step (fun k => by rw [output_State_s.l3]) ?_
    refine evn (by omega) ?_
    rw [List.drop_eq_nil_of_le (by omega), List.map_nil, List.append_nil]
    by_cases c : 0 < (emas s).length
    · refine evp (Int.natCast_pos.2 c) ?_
      refine Ev.bind (decs_ok ok.ema (by omega)) ?_
      refine evp (by rw [decL_len]; simp only [List.length_cons, List.length_nil]; omega) ?_
      refine evs (line_join (b := (⟨#[101, 109, 97]⟩ : ByteArray)) (l := decL (emas s)) (by decide) (by rw [decL_len]; omega) (decL_size ok.ema)) ?_
      refine evp (by simp only [List.length_cons, List.length_nil]; omega) ?_
      unfold emaP
      rw [if_pos c]
      exact hj _ (by simp only [List.length_append, List.length_cons, List.length_nil]; omega)
    · refine evn (fun h => c (Int.natCast_pos.1 h)) ?_
      unfold emaP
      rw [if_neg c, List.append_nil]
      exact hj _ (by omega)
  | succ d ih =>
    intro i acc h ha
    have k1 := ok.kept1 _ (mem_getD (0, 0, ()) (i := i) (by omega : i < (kepts s).length))
    have k2 := ok.kept2 _ (mem_getD (0, 0, ()) (i := i) (by omega : i < (kepts s).length))
    refine Ev.step (fun k => by rw [output_State_s.l3]) ?_
    refine evp (by omega) ?_
    refine evp (by omega) ?_
    refine evp (by omega) ?_
    refine Ev.bind (tell_ok k1) ?_
    refine Ev.bind (dput_ok k2) ?_
    have hb : ∀ b, b ∈ [tellv ((kepts s).getD i (0, 0, ())).1, decS ((kepts s).getD i (0, 0, ())).2.1] → b.size ≤ 100 := by
      intro b h
      simp only [List.mem_cons, List.not_mem_nil, or_false] at h
      rcases h with rfl | rfl
      · exact tellv_100 k1
      · exact decS_size k2
    refine evs (line_join (b := (⟨#[107, 101, 112, 116]⟩ : ByteArray)) (by decide) (by simp only [List.length_cons, List.length_nil]; omega) hb) ?_
    refine evp (by simp only [List.length_cons, List.length_nil]; omega) ?_
    rw [w64_succ (by omega)]
    have := ih (i + 1) (acc ++ [keptS ((kepts s).getD i (0, 0, ()))]) (by omega) (by simp only [List.length_append, List.length_cons, List.length_nil]; omega)
    rw [drop_cons (0, 0, ()) (by omega : i < (kepts s).length), List.map_cons]
    simp only [List.append_assoc, List.cons_append, List.nil_append] at this ⊢
    exact this
theorem state_ok : Ev (fun k => output_State_s.f k s) (stateL s) := by
  have nk := ok.nk
  unfold output_State_s.f
  refine evs (oword_ok _) ?_
  refine Ev.bind (tell_ok ok.step) ?_
  have hb : ∀ b, b ∈ [wordS s.2.1, tellv s.1] → b.size ≤ 100 := by
    intro b h
    simp only [List.mem_cons, List.not_mem_nil, or_false] at h
    rcases h with rfl | rfl
    · exact Nat.le_trans (wordS_size _) (by decide)
    · exact tellv_100 ok.step
  refine evs (line_join (by decide) (by simp only [List.length_cons, List.length_nil]; omega) hb) ?_
  exact state_l3 ok (fun acc h => state_j9 ok acc h (mean_word ok)) (kepts s).length 0 _ (by omega) (by simp only [List.length_cons, List.length_nil]; omega)
end
end Go.Proofs.Ytcgdhpnobgimfaa.Num
end
section
namespace Go.Proofs.Ytcgdhpnobgimfaa.Num
set_option linter.unusedVariables false
set_option linter.unusedSimpArgs false
open Go.RowKit Go.Proofs.Ytcgdhpnobgimfaa.PT Go.Proofs.YtcgdhpnobgimfaaW.PrintWords Go.Proofs.YtcgdhpnobgimfaaW.PrintMore

section
variable {s : StateT} (ok : StateOk s)
include ok
theorem rstate_j8 (acc : List ByteArray) (ha : acc.length ≤ 1000) : Ev (fun k => regimenref45_State_s.j8 k acc s) (acc ++ swaP s) := by
  have ns := ok.ns
  refine Ev.step (fun k => by rw [regimenref45_State_s.j8]) ?_
  refine evs (ref_smay_ok (swc s) (sws s)) ?_
  have done : ¬ (smay (swc s) (sws s) ∧ 0 < swc s) → Ev (fun k => regimenref45_State_s.j10 k acc) (acc ++ swaP s) := by
    intro h
    refine Ev.step (fun k => by rw [regimenref45_State_s.j10]) ?_
    unfold swaP
    rw [if_neg h, List.append_nil]
    exact Ev.now _
  by_cases m : smay (swc s) (sws s)
  · refine evp (by simpa using m) ?_
    by_cases c : 0 < swc s
    · have hm := mean_word ok c
      have ml : (meanL s).length ≤ 30 := by unfold meanL; rw [tab_length]; omega
      have z := tailS_size (decL_size hm)
      rw [decL_len] at z
      have zt := tellv_100 ok.cnt
      have zt' : (tellv s.2.2.2.2.2.2.2.1.1).size ≤ 100 := zt
      have c4 : (⟨#[115, 119, 97, 32]⟩ : ByteArray).size = 4 := rfl
      refine evp c ?_
      refine Ev.bind (ref_tell_ok ok.cnt) ?_
      refine evp (by omega) ?_
      have me : Ev (fun k => regimenref34_Mean.f k (swc s) (sws s)) (meanL s) := by
        unfold regimenref34_Mean.f
        exact ref_mean_loop (swc s) (sws s) ok.sums c m.2.1 (by omega) (sws s).length 0 (by omega)
      refine Ev.bind me ?_
      have dk := tail_ok hm (by omega)
      refine Ev.bind dk ?_
      refine evp (by rw [size_app]; omega) ?_
      refine evp (by simp only [List.length_cons, List.length_nil]; omega) ?_
      refine Ev.step (fun k => by rw [regimenref45_State_s.j10]) ?_
      unfold swaP
      rw [if_pos ⟨m, c⟩]
      have e : (⟨#[115, 119, 97, 32]⟩ : ByteArray) ++ tellv (swc s) ++ tailS (decL (meanL s)) = (⟨#[115, 119, 97]⟩ : ByteArray) ++ tailS (tellv (swc s) :: decL (meanL s)) := by
        rw [show (⟨#[115, 119, 97, 32]⟩ : ByteArray) = (⟨#[115, 119, 97]⟩ : ByteArray) ++ (⟨#[32]⟩ : ByteArray) from rfl, tailS]
        simp only [app_assoc]
      rw [← e]
      exact Ev.now _
    · refine evn c ?_
      exact done fun h => c h.2
  · refine evn (by simpa using m) ?_
    exact done fun h => m h.1
theorem rstate_l3 (d : Nat) : ∀ (i : Nat) (acc : List ByteArray), i + d = (kepts s).length → acc.length + d ≤ 900 →
    Ev (fun k => regimenref45_State_s.l3 k acc (i : Int) s) (acc ++ ((kepts s).drop i).map keptS ++ emaP s ++ swaP s) := by
  have nk := ok.nk
  have nk' : s.2.2.2.2.2.1.length ≤ 30 := nk
  have ne := ok.ne
  have ne' : s.2.2.2.2.2.2.1.length ≤ 30 := ne
  induction d with
  | zero =>
    intro i acc h ha
    have h' : i + 0 = s.2.2.2.2.2.1.length := h
    refine Ev.step (fun k => by rw [regimenref45_State_s.l3]) ?_
    refine evn (by omega) ?_
    rw [List.drop_eq_nil_of_le (by omega), List.map_nil, List.append_nil]
    by_cases c : 0 < (emas s).length
    · refine evp (Int.natCast_pos.2 c) ?_
      have z := tailS_size (decL_size ok.ema)
      rw [decL_len] at z
      have c3 : (⟨#[101, 109, 97]⟩ : ByteArray).size = 3 := rfl
      have dk := tail_ok ok.ema (by omega)
      refine Ev.bind dk ?_
      refine evp (by omega) ?_
      refine evp (by simp only [List.length_cons, List.length_nil]; omega) ?_
      unfold emaP
      rw [if_pos c]
      exact rstate_j8 ok _ (by simp only [List.length_append, List.length_cons, List.length_nil]; omega)
    · refine evn (fun h => c (Int.natCast_pos.1 h)) ?_
      unfold emaP
      rw [if_neg c, List.append_nil]
      exact rstate_j8 ok _ (by omega)
  | succ d ih =>
    intro i acc h ha
    have h' : i + (d + 1) = s.2.2.2.2.2.1.length := h
    have k1 := ok.kept1 _ (mem_getD (0, 0, ()) (i := i) (by omega : i < (kepts s).length))
    have k2 := ok.kept2 _ (mem_getD (0, 0, ()) (i := i) (by omega : i < (kepts s).length))
    have z1 := tellv_100 k1
    have z2 := decS_size k2
    have c5 : (⟨#[107, 101, 112, 116, 32]⟩ : ByteArray).size = 5 := rfl
    have v1 : ∀ x, x ∈ [((kepts s).getD i (0, 0, ())).2.1] → word' x := fun x hx => by rw [List.mem_singleton.1 hx]; exact k2
    have z := tailS_size (decL_size v1)
    rw [decL_len, List.length_singleton] at z
    refine Ev.step (fun k => by rw [regimenref45_State_s.l3]) ?_
    refine evp (by omega) ?_
    refine evp (by omega) ?_
    refine evp (by omega) ?_
    have dt := ref_tell_ok k1
    refine Ev.bind dt ?_
    refine evp (by omega) ?_
    refine evp (by omega) ?_
    refine evp (by omega) ?_
    have dk := tail_ok v1 (by rw [List.length_singleton]; omega)
    refine Ev.bind dk ?_
    refine evp (by rw [size_app]; omega) ?_
    refine evp (by simp only [List.length_cons, List.length_nil]; omega) ?_
    rw [w64_succ (by omega)]
    have := ih (i + 1) (acc ++ [keptS ((kepts s).getD i (0, 0, ()))]) (by omega) (by simp only [List.length_append, List.length_cons, List.length_nil]; omega)
    rw [drop_cons (0, 0, ()) (by omega : i < (kepts s).length), List.map_cons]
    simp only [List.append_assoc, List.cons_append, List.nil_append] at this ⊢
    exact this
theorem rstate_ok : Ev (fun k => regimenref45_State_s.f k s) (stateL s) := by
  have nk := ok.nk
  have z1 := tellv_100 ok.step
  have z3 := wordS_size s.2.1
  have c6 : (⟨#[115, 116, 97, 116, 101, 32]⟩ : ByteArray).size = 6 := rfl
  have c1 := sz_one
  unfold regimenref45_State_s.f
  refine evs (rword_ok _) ?_
  refine evp (by omega) ?_
  refine evp (by rw [size_app]; omega) ?_
  refine Ev.bind (ref_tell_ok ok.step) ?_
  refine evp (by rw [size_app, size_app]; omega) ?_
  have e : (⟨#[115, 116, 97, 116, 101, 32]⟩ : ByteArray) ++ wordS s.2.1 ++ (⟨#[32]⟩ : ByteArray) ++ tellv s.1 = headT s := by
    unfold headT
    rw [show (⟨#[115, 116, 97, 116, 101, 32]⟩ : ByteArray) = (⟨#[115, 116, 97, 116, 101]⟩ : ByteArray) ++ (⟨#[32]⟩ : ByteArray) from rfl]
    simp only [tailS, app_assoc, app_nil]
  rw [e]
  exact rstate_l3 ok (kepts s).length 0 _ (by omega) (by simp only [List.length_cons, List.length_nil]; omega)
end
end Go.Proofs.Ytcgdhpnobgimfaa.Num
end
section
namespace Go.Proofs.Ytcgdhpnobgimfaa.Num
set_option linter.unusedVariables false
set_option linter.unusedSimpArgs false
open Go.RowKit Go.Proofs.Ytcgdhpnobgimfaa.PT Go.Proofs.YtcgdhpnobgimfaaW.PrintWords Go.Proofs.YtcgdhpnobgimfaaW.PrintMore

theorem grpS_small {o : OutT} (ok : OutOk o) (i : Nat) (hi : i < 1000) : (grpS o i).size ≤ 10000 := by
  unfold grpS
  have h : ∀ b, b ∈ tellv (i : Int) :: grpW o i → b.size ≤ 100 := fun b hb => by
    rcases List.mem_cons.1 hb with rfl | hb
    · exact tellv_100 ⟨by omega, by omega⟩
    · unfold grpW at hb
      rcases List.mem_append.1 hb with q | q
      · exact decL_size (grp_vals ok) b q
      · split at q
        · rw [List.mem_singleton.1 q]; decide
        · cases q
  have h2 := tailS_size h
  have h3 : (grpW o i).length ≤ 4 := by
    unfold grpW
    rw [List.length_append, decL_len, List.length_drop, List.length_take]
    split <;> simp only [List.length_cons, List.length_nil] <;> omega
  rw [List.length_cons] at h2
  rw [size_app]
  have h4 : (⟨#[32, 32, 103, 114, 111, 117, 112]⟩ : ByteArray).size = 7 := rfl
  omega
theorem headS_small {o : OutT} (ok : OutOk o) : (headS o).size ≤ 10000 := by
  unfold headS
  have h2 := tailS_size (l := [tellv o.1, (⟨#[112, 104, 97, 115, 101]⟩ : ByteArray), tellv o.2.1, wordS o.2.2.2.2.2.1]) (fun b hb => by
    simp only [List.mem_cons, List.not_mem_nil, or_false] at hb
    rcases hb with rfl | rfl | rfl | rfl
    · exact tellv_100 ok.step
    · decide
    · exact tellv_100 ok.phase
    · exact Nat.le_trans (wordS_size _) (by decide))
  rw [size_app]
  have h4 : (⟨#[115, 116, 101, 112]⟩ : ByteArray).size = 4 := rfl
  simp only [List.length_cons, List.length_nil] at h2
  omega
theorem step_small {o : OutT} (ok : OutOk o) : (∀ w ∈ stepL o, w.size ≤ 10000) ∧ (stepL o).length ≤ 1000 := by
  have hv := ok.nv
  have he := ok.ne
  unfold stepL
  refine ⟨fun w hw => ?_, ?_⟩
  · rcases List.mem_append.1 hw with hw | hw
    · rcases List.mem_append.1 hw with hw | hw
      · rw [List.mem_singleton.1 hw]
        exact headS_small ok
      · obtain ⟨i, hi, rfl⟩ := List.mem_map.1 hw
        rw [List.mem_range'_1] at hi
        exact grpS_small ok i (by omega)
    · obtain ⟨e, hm, rfl⟩ := List.mem_map.1 hw
      rw [List.drop_zero] at hm
      unfold evS
      rw [size_app]
      have := line_size (k := e.2.1) (ok.evs e hm)
      have h4 : (⟨#[32, 32]⟩ : ByteArray).size = 2 := rfl
      omega
  · simp only [List.length_append, List.length_map, List.length_range', List.length_cons, List.length_nil, List.length_drop]
    omega
theorem state_small {s : StateT} (ok : StateOk s) : (∀ w ∈ stateL s, w.size ≤ 10000) ∧ (stateL s).length ≤ 1000 := by
  have hk := ok.nk
  have he := ok.ne
  have hs := ok.ns
  unfold stateL
  refine ⟨fun w hw => ?_, ?_⟩
  · rcases List.mem_append.1 hw with hw | hw
    · rcases List.mem_append.1 hw with hw | hw
      · rcases List.mem_append.1 hw with hw | hw
        · rw [List.mem_singleton.1 hw]
          unfold headT
          have h2 := tailS_size (l := [wordS s.2.1, tellv s.1]) (fun b hb => by
            simp only [List.mem_cons, List.not_mem_nil, or_false] at hb
            rcases hb with rfl | rfl
            · exact Nat.le_trans (wordS_size _) (by decide)
            · exact tellv_100 ok.step)
          rw [size_app]
          have h4 : (⟨#[115, 116, 97, 116, 101]⟩ : ByteArray).size = 5 := rfl
          simp only [List.length_cons, List.length_nil] at h2
          omega
        · obtain ⟨k, hm, rfl⟩ := List.mem_map.1 hw
          rw [List.drop_zero] at hm
          unfold keptS
          have h2 := tailS_size (l := [tellv k.1, decS k.2.1]) (fun b hb => by
            simp only [List.mem_cons, List.not_mem_nil, or_false] at hb
            rcases hb with rfl | rfl
            · exact tellv_100 (ok.kept1 k hm)
            · exact decS_size (ok.kept2 k hm))
          rw [size_app]
          have h4 : (⟨#[107, 101, 112, 116]⟩ : ByteArray).size = 4 := rfl
          simp only [List.length_cons, List.length_nil] at h2
          omega
      · unfold emaP at hw
        split at hw
        · rw [List.mem_singleton.1 hw, size_app]
          have h2 := tailS_size (decL_size ok.ema)
          rw [decL_len] at h2
          have h4 : (⟨#[101, 109, 97]⟩ : ByteArray).size = 3 := rfl
          omega
        · cases hw
    · unfold swaP at hw
      split at hw
      · rename_i hc
        rw [List.mem_singleton.1 hw, size_app]
        have h2 := tailS_size (l := tellv (swc s) :: decL (meanL s)) (fun b hb => by
          rcases List.mem_cons.1 hb with rfl | hb
          · exact tellv_100 ok.cnt
          · exact decL_size (mean_word ok hc.2) b hb)
        have h5 : (meanL s).length = (sws s).length := by unfold meanL; rw [tab_length]
        rw [List.length_cons, decL_len, h5] at h2
        have h4 : (⟨#[115, 119, 97]⟩ : ByteArray).size = 3 := rfl
        omega
      · cases hw
  · unfold emaP swaP
    simp only [List.length_append, List.length_map, List.length_cons, List.length_nil, List.length_drop]
    split <;> split <;> simp only [List.length_cons, List.length_nil] <;> omega
theorem endL_small {L : List ByteArray} (h : ∀ w ∈ L, w.size ≤ 10000) : (endL L).length ≤ 10001 * L.length := by
  induction L with
  | nil => exact Nat.le_refl _
  | cons w r ih =>
    have h1 := h w List.mem_cons_self
    have h2 := ih fun x hx => h x (List.mem_cons_of_mem _ hx)
    have h3 : w.data.toList.length = w.size := rfl
    rw [endL, List.length_append, List.length_cons, List.length_cons]
    omega
noncomputable def allO (l : List OutT) : List ByteArray := (l.map stepL).flatten
theorem allO_small {l : List OutT} (h : ∀ o ∈ l, OutOk o) : (∀ w ∈ allO l, w.size ≤ 10000) ∧ (allO l).length ≤ 1000 * l.length := by
  induction l with
  | nil => exact ⟨fun w hw => (by cases hw), Nat.le_refl _⟩
  | cons o r ih =>
    have h1 := step_small (h o List.mem_cons_self)
    have h2 := ih fun x hx => h x (List.mem_cons_of_mem _ hx)
    have e : allO (o :: r) = stepL o ++ allO r := rfl
    rw [e]
    refine ⟨fun w hw => ?_, by rw [List.length_append, List.length_cons]; omega⟩
    rcases List.mem_append.1 hw with q | q
    · exact h1.1 w q
    · exact h2.1 w q
theorem steps_ok {l : List OutT} (h : ∀ o ∈ l, OutOk o) : Ev (fun k => stepsO k l) (allO l) := by
  induction l with
  | nil => exact Ev.now _
  | cons o r ih =>
    have ih := ih fun x hx => h x (List.mem_cons_of_mem _ hx)
    exact Ev.bind (g := fun k => output_Step_s.f k o) (step_ok (h o List.mem_cons_self)) (Ev.bind ih (Ev.now _))
noncomputable def textV (l : List OutT) (s : StateT) : ByteArray := ⟨(endL (allO l ++ stateL s)).toArray⟩
theorem text_small {l : List OutT} {s : StateT} (h : ∀ o ∈ l, OutOk o) (hn : l.length ≤ 6) (ok : StateOk s) : (∀ w ∈ allO l ++ stateL s, w.size ≤ 10000) ∧ (allO l ++ stateL s).length ≤ 7000 ∧ (endL (allO l ++ stateL s)).length ≤ 70007000 := by
  have h1 := allO_small h
  have h2 := state_small ok
  have h3 : ∀ w ∈ allO l ++ stateL s, w.size ≤ 10000 := fun w hw => by
    rcases List.mem_append.1 hw with q | q
    · exact h1.1 w q
    · exact h2.1 w q
  have h4 : (allO l ++ stateL s).length ≤ 7000 := by rw [List.length_append]; omega
  have h5 := endL_small h3
  exact ⟨h3, h4, by omega⟩
theorem ttext_ok {l : List OutT} {s : StateT} (h : ∀ o ∈ l, OutOk o) (hn : l.length ≤ 6) (ok : StateOk s) : Ev (fun k => output_Text.f k l s) (textV l s) := by
  have hs := text_small h hn ok
  unfold output_Text.f
  refine Ev.bind (steps_ok h) ?_
  refine Ev.bind (state_ok ok) ?_
  refine evp ⟨by omega, by omega⟩ ?_
  exact Ev.now _
/-! ### the document's text -/
theorem rtext_l9 (L : List ByteArray) (hL : ∀ w ∈ L, w.size ≤ 10000) (hn : L.length ≤ 10000) (d : Nat) : ∀ (i : Nat) (acc : ByteArray), i + d = L.length → acc.size + 10001 * d ≤ 1000000000 →
    Ev (fun k => regimenref45_Text_s.l9 k L acc (i : Int)) ⟨(acc.data.toList ++ endL (L.drop i)).toArray⟩ := by
  induction d with
  | zero =>
    intro i acc h ha
    refine Ev.step (fun k => by rw [regimenref45_Text_s.l9]) ?_
    refine evn (by omega) ?_
    rw [List.drop_eq_nil_of_le (by omega : L.length ≤ i), endL, List.append_nil]
    exact Ev.now _
  | succ d ih =>
    intro i acc h ha
    have hi : i < L.length := by omega
    have hw := hL _ (List.getElem_mem hi)
    have hg : L.getD i (⟨#[]⟩ : ByteArray) = L[i] := by rw [List.getD_eq_getElem?_getD, List.getElem?_eq_getElem hi]; rfl
    have h10 : (⟨#[10]⟩ : ByteArray).size = 1 := rfl
    refine Ev.step (fun k => by rw [regimenref45_Text_s.l9]) ?_
    refine evp (by omega) ?_
    refine evp (by omega) ?_
    refine evp (by omega) ?_
    rw [show ((i : Int)).toNat = i from rfl, hg]
    refine evp (by omega) ?_
    refine evp (by rw [size_app, h10]; omega) ?_
    rw [w64_succ (by omega)]
    have := ih (i + 1) (acc ++ L[i] ++ (⟨#[10]⟩ : ByteArray)) (by omega) (by rw [size_app, size_app, h10]; omega)
    rw [ba_app, ba_app] at this
    rw [List.drop_eq_getElem_cons hi, endL]
    have e : acc.data.toList ++ L[i].data.toList ++ (⟨#[10]⟩ : ByteArray).data.toList ++ endL (L.drop (i + 1)) = acc.data.toList ++ (L[i].data.toList ++ 10 :: endL (L.drop (i + 1))) := by
      rw [List.append_assoc, List.append_assoc]
      rfl
    rw [e] at this
    exact this
theorem rtext_l3 {l : List OutT} {s : StateT} (h : ∀ o ∈ l, OutOk o) (hn : l.length ≤ 6) (ok : StateOk s) (d : Nat) : ∀ (i : Nat), i + d = l.length →
    Ev (fun k => regimenref45_Text_s.l3 k l (allO (l.take i)) (i : Int) s) (textV l s) := by
  have hs := text_small h hn ok
  have hlen : ∀ i, (allO (l.take i)).length ≤ 6000 := fun i => by
    have := (allO_small (l := l.take i) fun o ho => h o (List.mem_of_mem_take ho)).2
    have h2 : (l.take i).length ≤ 6 := by rw [List.length_take]; omega
    omega
  induction d with
  | zero =>
    intro i hi
    have e : l.take i = l := List.take_of_length_le (by omega)
    have hst := (state_small ok).2
    have hl := hlen i
    refine Ev.step (fun k => by rw [regimenref45_Text_s.l3]) ?_
    refine evn (by omega) ?_
    refine Ev.bind (rstate_ok ok) ?_
    refine evp (by omega) ?_
    rw [e]
    have := rtext_l9 (allO l ++ stateL s) hs.1 (by omega) (allO l ++ stateL s).length 0 ⟨#[]⟩ (Nat.zero_add _) (by show 0 + _ ≤ _; omega)
    rw [List.drop_zero] at this
    exact this
  | succ d ih =>
    intro i hi
    have hlt : i < l.length := by omega
    have ho := h _ (List.getElem_mem hlt)
    have hst := (step_small ho).2
    have hl := hlen i
    have hg : l.getD i (0, 0, ([] : List Int), ([] : List Bool), ([] : List (Int × Int × Int × Unit)), 0, ()) = l[i] := by rw [List.getD_eq_getElem?_getD, List.getElem?_eq_getElem hlt]; rfl
    refine Ev.step (fun k => by rw [regimenref45_Text_s.l3]) ?_
    refine evp (by omega) ?_
    refine evp (by omega) ?_
    refine evp (by omega) ?_
    rw [show ((i : Int)).toNat = i from rfl, hg]
    refine Ev.bind (rstep_ok ho) ?_
    refine evp (by omega) ?_
    rw [w64_succ (by omega)]
    have := ih (i + 1) (by omega)
    have e : allO (l.take (i + 1)) = allO (l.take i) ++ stepL l[i] := by
      rw [List.take_add_one, List.getElem?_eq_getElem hlt]
      unfold allO
      rw [List.map_append, List.flatten_append]
      show _ ++ (stepL l[i] ++ []) = _
      rw [List.append_nil]
    rw [e] at this
    exact this
theorem rtext_ok {l : List OutT} {s : StateT} (h : ∀ o ∈ l, OutOk o) (hn : l.length ≤ 6) (ok : StateOk s) : Ev (fun k => regimenref45_Text_s.f k l s) (textV l s) := by
  unfold regimenref45_Text_s.f
  exact rtext_l3 h hn ok l.length 0 (Nat.zero_add _)
end Go.Proofs.Ytcgdhpnobgimfaa.Num
end
section
namespace Go.Proofs.Ytcgdhpnobgimfaa.Num
set_option linter.unusedVariables false
set_option linter.unusedSimpArgs false
open Go.RowKit Go.Proofs.Ytcgdhpnobgimfaa.PT Go.Proofs.YtcgdhpnobgimfaaW.PrintWords Go.Proofs.YtcgdhpnobgimfaaW.PrintMore Go.Sym

theorem awake_ok : Ev (fun k => regimenlaw45_awake_s.f k) true := Ev.of (fun k => regimenlaw45_awake_s.mono k) (k := 80) (by decide +kernel)
def smallO (o : OutT) : Bool := decide (o.2.2.1.length ≤ 60) && (decide (o.2.2.2.1.length ≤ 60) && decide (o.2.2.2.2.1.length ≤ 60))
theorem le_iff60 (n : Nat) : ((n : Int) ≤ 60) ↔ n ≤ 60 := by omega
theorem le_iff30 (n : Nat) : ((n : Int) ≤ 30) ↔ n ≤ 30 := by omega
theorem small_ok (o : OutT) : Ev (fun k => regimenlaw45_small_s.f k o) (smallO o) := by
  unfold regimenlaw45_small_s.f smallO
  simp only [le_iff60, Bool.false_xor]
  by_cases a : o.2.2.1.length ≤ 60
  · refine evp a ?_
    rw [decide_eq_true a, Bool.true_and]
    by_cases b : o.2.2.2.1.length ≤ 60
    · refine evp b ?_
      rw [decide_eq_true b, Bool.true_and]
      exact Ev.now _
    · refine evn b ?_
      rw [decide_eq_false b, Bool.false_and]
      exact Ev.now _
  · refine evn a ?_
    rw [decide_eq_false a, Bool.false_and]
    exact Ev.now _
def lightS (s : StateT) : Bool := decide ((kepts s).length ≤ 30) && (decide ((emas s).length ≤ 30) && decide ((sws s).length ≤ 30))
theorem light_ok (s : StateT) : Ev (fun k => regimenlaw37_Light_s.f k s) (lightS s) := by
  unfold regimenlaw37_Light_s.f lightS
  simp only [le_iff30, Bool.false_xor]
  by_cases a : (kepts s).length ≤ 30
  · refine evp a ?_
    rw [decide_eq_true a, Bool.true_and]
    by_cases b : (emas s).length ≤ 30
    · refine evp b ?_
      rw [decide_eq_true b, Bool.true_and]
      exact Ev.now _
    · refine evn b ?_
      rw [decide_eq_false b, Bool.false_and]
      exact Ev.now _
  · refine evn a ?_
    rw [decide_eq_false a, Bool.false_and]
    exact Ev.now _
abbrev outTy : Ty := .cons (.int .i64) (.cons (.int .i64) (.cons (.sl (.int .i64)) (.cons (.sl .bool) (.cons (.sl (.cons (.int .i64) (.cons (.int .i64) (.cons (.int .i64) .nil)))) (.cons (.int .i64) .nil)))))
abbrev stTy : Ty := .cons (.int .i64) (.cons (.int .i64) (.cons (.int .i64) (.cons (.cons .bool (.cons (.int .i64) (.cons (.int .i64) .nil))) (.cons (.cons (.cons .bool (.cons (.int .i64) (.cons (.int .i64) .nil))) (.cons (.int .i64) (.cons (.int .i64) .nil))) (.cons (.sl (.cons (.int .i64) (.cons (.int .i64) .nil))) (.cons (.sl (.int .i64)) (.cons (.cons (.int .i64) (.cons (.sl (.int .i64)) .nil)) .nil)))))))
theorem out_wf {o : OutT} (w : Wf outTy o) (h : smallO o = true) : OutOk o := by
  unfold smallO at h
  simp only [Bool.and_eq_true, decide_eq_true_eq] at h
  obtain ⟨h1, h2, h3, h4, h5, h6, _⟩ := w
  exact ⟨i64_wf h1, i64_wf h2, fun x hx => i64_wf (h3.2 x hx), Nat.le_trans h.1 (by decide), Nat.le_trans h.2.1 (by decide), Nat.le_trans h.2.2 (by decide), fun e he => i64_wf (h5.2 e he).2.2.1⟩
theorem st_wf {s : StateT} (w : Wf stTy s) (h : lightS s = true) : StateOk s := by
  unfold lightS at h
  simp only [Bool.and_eq_true, decide_eq_true_eq] at h
  obtain ⟨h1, h2, h3, h4, h5, h6, h7, h8, _⟩ := w
  exact ⟨i64_wf h1, fun k hk => i64_wf (h6.2 k hk).1, fun k hk => i64_wf (h6.2 k hk).2.1, h.1, fun x hx => i64_wf (h7.2 x hx), h.2.1, i64_wf h8.1, fun x hx => i64_wf (h8.2.1.2 x hx), h.2.2⟩
theorem otext_l4 (l : List OutT) (s : StateT) (hw : ∀ o ∈ l, Wf outTy o) (hn : l.length ≤ 6) (so : StateOk s) (d : Nat) : ∀ i : Nat, i + d = l.length → (∀ o ∈ l.take i, OutOk o) → Ev (fun k => regimenlaw45_OutputText.l4 k l (i : Int) s) true := by
  induction d with
  | zero =>
    intro i hi ho
    rw [List.take_of_length_le (by omega)] at ho
    refine Ev.step (fun k => by rw [regimenlaw45_OutputText.l4]) ?_
    refine evn (by omega) ?_
    refine Ev.bind (ttext_ok ho hn so) ?_
    refine Ev.bind (rtext_ok ho hn so) ?_
    refine evp rfl ?_
    exact Ev.bind awake_ok (Ev.now _)
  | succ d ih =>
    intro i hi ho
    have hlt : i < l.length := by omega
    have hg : l.getD i (0, 0, ([] : List Int), ([] : List Bool), ([] : List (Int × Int × Int × Unit)), 0, ()) = l[i] := by rw [List.getD_eq_getElem?_getD, List.getElem?_eq_getElem hlt]; rfl
    refine Ev.step (fun k => by rw [regimenlaw45_OutputText.l4]) ?_
    refine evp (by omega) ?_
    refine evp (by omega) ?_
    refine evp (by omega) ?_
    rw [show ((i : Int)).toNat = i from rfl, hg]
    refine Ev.bind (small_ok l[i]) ?_
    rcases Bool.eq_false_or_eq_true (smallO l[i]) with a | a
    · refine evn (by rw [a]; decide) ?_
      rw [w64_succ (by omega)]
      refine ih (i + 1) (by omega) fun o hm => ?_
      rw [List.take_add_one, List.getElem?_eq_getElem hlt] at hm
      rcases List.mem_append.1 hm with q | q
      · exact ho o q
      · rw [List.mem_singleton.1 (show o ∈ [l[i]] from q)]
        exact out_wf (hw _ (List.getElem_mem hlt)) a
    · refine evp (by rw [a]; rfl) ?_
      exact Ev.bind awake_ok (Ev.now _)
theorem otext_ok (l : List OutT) (s : StateT) (hw : ∀ o ∈ l, Wf outTy o) (w1 : Wf stTy s) : Ev (fun k => regimenlaw45_OutputText.f k l s) true := by
  unfold regimenlaw45_OutputText.f
  by_cases c : l.length ≤ 6
  · refine evn (by omega) ?_
    refine Ev.bind (light_ok s) ?_
    rcases Bool.eq_false_or_eq_true (lightS s) with b | b
    · refine evn (by rw [b]; decide) ?_
      exact otext_l4 l s hw c (st_wf w1 b) l.length 0 (Nat.zero_add _) (fun o ho => by cases ho)
    · refine evp (by rw [b]; rfl) ?_
      exact Ev.bind awake_ok (Ev.now _)
  · refine evp (by omega) ?_
    exact Ev.bind awake_ok (Ev.now _)
end Go.Proofs.Ytcgdhpnobgimfaa.Num
namespace Go.Proofs.Ytcgdhpnobgimfaa
set_option linter.unusedVariables false
open Go.Sym Go.Proofs.Ytcgdhpnobgimfaa.Num Go.Proofs.Ytcgdhpnobgimfaa.PT
theorem Pure.OutputText (y0 : El (.sl outTy)) (w0 : Wf (.sl outTy) y0) (y1 : El stTy) (w1 : Wf stTy y1) : ∃ k, regimenlaw45_OutputText.c.fn k (y0, (y1, ())) = some true := by
  obtain ⟨K, h⟩ := otext_ok y0 y1 w0.2 w1
  exact ⟨K, h K (Nat.le_refl _)⟩
end Go.Proofs.Ytcgdhpnobgimfaa
end
