/- What numbers come to (layer 49): the program's and the reference's, by value. -/
import Derived.Test.YtmakhhgfidgfdaaPFx3
import Derived.Test.YtmakhhgfidgfdaaPFx5
import Derived.Test.YtmakhhgfidgfdaaPFx6
import Derived.Test.YtmakhhgfidgfdaaPFx9
import Derived.Test.YtmakhhgfidgfdaaFSame
namespace Go.Proofs.Ytmakhhgfidgfdaa.Num
set_option linter.unusedVariables false
set_option linter.unusedSimpArgs false
open Go.RowKit Go.Proofs.Ytmakhhgfidgfdaa.PF Go.Proofs.YtmakhhgfidgfdaaW.PrintWords Go.Proofs.YtmakhhgfidgfdaaW.PrintMore

/-- The sums of those that are not below 0, of those below, apart; of all. -/
def ups (T : Nat → Int) : Nat → Int
  | 0 => 0
  | i + 1 => if T i < 0 then ups T i else ups T i + T i
def downs (T : Nat → Int) : Nat → Int
  | 0 => 0
  | i + 1 => if T i < 0 then downs T i - T i else downs T i
def tot (T : Nat → Int) : Nat → Int
  | 0 => 0
  | i + 1 => tot T i + T i
theorem ups_downs (T : Nat → Int) (h : ∀ i, word' (T i)) (n : Nat) : 0 ≤ ups T n ∧ ups T n ≤ 9223372036854775808 * n ∧ 0 ≤ downs T n ∧ downs T n ≤ 9223372036854775808 * n ∧ tot T n = ups T n - downs T n := by
  induction n with
  | zero => simp [ups, downs, tot]
  | succ n ih =>
    have w0 := (h n).1
    have w1 := (h n).2
    unfold ups downs tot
    split <;> (refine ⟨?_, ?_, ?_, ?_, ?_⟩ <;> omega)
/-- How far all together are from 0, in two words; are they below it? -/
def sum2 (S : Int) : Int × Int × Bool := (iabs S / 18446744073709551616 % 18446744073709551616, iabs S % 18446744073709551616, decide (S < 0))
theorem split_join {V : Int} (h0 : 0 ≤ V) (h1 : V < 340282366920938463463374607431768211456) : V % 18446744073709551616 + 18446744073709551616 * (V / 18446744073709551616 % 18446744073709551616) = V := by omega
theorem stats_sum_loop (l : List Int) (hl : ∀ x, x ∈ l → word' x) (hn : l.length < 1000000) (e : Nat) :
    ∀ (i : Nat), i + e = l.length → Ev (fun k => stats_Sum.l0 k l (l.length : Int) (i : Int) (ups (fun k => l.getD k 0) i / 18446744073709551616 % 18446744073709551616) (ups (fun k => l.getD k 0) i % 18446744073709551616) (downs (fun k => l.getD k 0) i / 18446744073709551616 % 18446744073709551616) (downs (fun k => l.getD k 0) i % 18446744073709551616)) (sum2 (tot (fun k => l.getD k 0) l.length)) := by
  induction e with
  | zero =>
    intro i h
    obtain rfl : i = l.length := by omega
    obtain ⟨u0, u1, d0, d1, ht⟩ := ups_downs (fun k => l.getD k 0) (getD_word' hl) l.length
    rw [ht]
    generalize ups (fun k => l.getD k 0) l.length = U at *
    generalize downs (fun k => l.getD k 0) l.length = D at *
    have s1 := pair_sub_ok (a0 := U / 18446744073709551616 % 18446744073709551616) (a1 := U % 18446744073709551616) (b0 := D / 18446744073709551616 % 18446744073709551616) (b1 := D % 18446744073709551616) (by omega) (by omega) (by omega) (by omega)
    have s2 := pair_sub_ok (a0 := D / 18446744073709551616 % 18446744073709551616) (a1 := D % 18446744073709551616) (b0 := U / 18446744073709551616 % 18446744073709551616) (b1 := U % 18446744073709551616) (by omega) (by omega) (by omega) (by omega)
    rw [split_join u0 (by omega), split_join d0 (by omega)] at s1 s2
    refine Ev.step (fun k => by rw [stats_Sum.l0]) ?_
    refine evn (by omega) ?_
    refine evs s1 ?_
    unfold sum2 iabs
    by_cases c : U ≥ D
    · refine evp (decide_eq_true c) ?_
      rw [if_neg (by omega), show decide (U - D < 0) = false from decide_eq_false (by omega)]
      exact Ev.now _
    · refine evn (by rw [decide_eq_false c]; simp) ?_
      refine evs s2 ?_
      rw [if_pos (by omega), show decide (U - D < 0) = true from decide_eq_true (by omega), show -(U - D) = D - U from by omega]
      exact Ev.now _
  | succ e ih =>
    intro i h
    obtain ⟨u0, u1, d0, d1, ht⟩ := ups_downs (fun k => l.getD k 0) (getD_word' hl) i
    have nx := ih (i + 1) (by omega)
    have w := getD_word' hl i
    have w0 := w.1
    have w1 := w.2
    have a0 := iabs_nonneg (l.getD i 0)
    have a1 := iabs_lt w
    have eu : ups (fun k => l.getD k 0) (i + 1) = if l.getD i 0 < 0 then ups (fun k => l.getD k 0) i else ups (fun k => l.getD k 0) i + l.getD i 0 := rfl
    have ed : downs (fun k => l.getD k 0) (i + 1) = if l.getD i 0 < 0 then downs (fun k => l.getD k 0) i - l.getD i 0 else downs (fun k => l.getD k 0) i := rfl
    rw [eu, ed] at nx
    generalize ups (fun k => l.getD k 0) i = U at *
    generalize downs (fun k => l.getD k 0) i = D at *
    refine Ev.step (fun k => by rw [stats_Sum.l0]) ?_
    refine evp (by omega) ?_
    refine evp (by omega) ?_
    refine evp (by omega) ?_
    rw [rd_nat]
    refine evs (fix_size_ok w) ?_
    rw [w64_succ (by omega)]
    by_cases c : l.getD i 0 < 0
    · rw [if_pos c, if_pos c] at nx
      refine evp c ?_
      have s := pair_add_ok (a0 := D / 18446744073709551616 % 18446744073709551616) (a1 := D % 18446744073709551616) (b0 := 0) (b1 := iabs (l.getD i 0)) (by omega) (by omega) (by omega) (by omega)
      rw [split_join d0 (by omega), show iabs (l.getD i 0) + 18446744073709551616 * 0 = - l.getD i 0 from by rw [show iabs (l.getD i 0) = - l.getD i 0 from if_pos c]; omega] at s
      refine evs s ?_
      exact nx
    · rw [if_neg c, if_neg c] at nx
      refine evn c ?_
      have s := pair_add_ok (a0 := U / 18446744073709551616 % 18446744073709551616) (a1 := U % 18446744073709551616) (b0 := 0) (b1 := iabs (l.getD i 0)) (by omega) (by omega) (by omega) (by omega)
      rw [split_join u0 (by omega), show iabs (l.getD i 0) + 18446744073709551616 * 0 = l.getD i 0 from by rw [show iabs (l.getD i 0) = l.getD i 0 from if_neg c]; omega] at s
      refine evs s ?_
      exact nx
theorem stats_sum_ok (l : List Int) (hl : ∀ x, x ∈ l → word' x) (hn : l.length < 1000000) : Ev (fun k => stats_Sum.f k l) (sum2 (tot (fun k => l.getD k 0) l.length)) := by
  unfold stats_Sum.f
  exact stats_sum_loop l hl hn l.length 0 (by omega)
/-- One number more, in the reference's sum. -/
theorem ref_sum_step (l s : List Int) (i : Nat) (S x : Int) (hx : l.getD i 0 = x) (hi : i < l.length) (hn : l.length < 1000) (wx : word' x) (ds : dok s) (vs : dv s = iabs S) (ls : s.length ≤ 5 + i) :
    ∃ r : List Int, dok r ∧ dv r = iabs (S + x) ∧ r.length ≤ 6 + i ∧ ∀ R, Ev (fun k => regimenref49_Sum.l0 k l r (decide (S + x < 0)) ((i + 1 : Nat) : Int)) R → Ev (fun k => regimenref49_Sum.l0 k l s (decide (S < 0)) (i : Int)) R := by
  obtain ⟨b, hb, db, vb, lb⟩ := ref_size_ok wx
  by_cases c : (S < 0 ↔ x < 0)
  · obtain ⟨r, hr, dr, vr, lr⟩ := plus_ok s b ds db (5 + i) ls (by omega) (by omega)
    refine ⟨r, dr, ?_, by omega, fun R hR => ?_⟩
    · rw [vr, vs, vb]
      unfold iabs
      split <;> split <;> split <;> omega
    · rw [show decide (S + x < 0) = decide (S < 0) from decide_eq_decide.2 (by omega)] at hR
      refine Ev.step (fun k => by rw [regimenref49_Sum.l0]) ?_
      refine evp (by omega) ?_
      refine evp (by omega) ?_
      rw [rd_nat, hx]
      refine evs hb ?_
      refine evp (by simp [c]) ?_
      refine Ev.bind hr ?_
      rw [w64_succ (by omega)]
      exact hR
  · have hc := cmp_ok s b ds db (by omega) (by omega)
    have nq : ¬ ((decide (S < 0) == decide (x < 0)) = true) := fun h => c (by simpa using h)
    have ax := iabs_nonneg x
    by_cases g : dv s ≥ dv b
    · obtain ⟨r, hr, dr, vr, lr⟩ := less_ok (s ++ [0]) b (dok_snoc ds ⟨by omega, by omega⟩) db (by simp; omega) (by rw [dv_snoc]; omega)
      rw [dv_snoc] at vr
      have lr2 : r.length ≤ 6 + i := by rw [lr]; simp; omega
      have hc2 := cmp_ok r [] dr dok_nil (by omega) (by simp)
      rw [show dv ([] : List Int) = 0 from rfl] at hc2
      have r0 := dv_nonneg dr
      refine ⟨r, dr, ?_, lr2, fun R hR => ?_⟩
      · rw [vr, vs, vb]
        rw [vs, vb] at g
        unfold iabs at *
        split at g <;> split at g <;> split <;> omega
      · refine Ev.step (fun k => by rw [regimenref49_Sum.l0]) ?_
        refine evp (by omega) ?_
        refine evp (by omega) ?_
        rw [rd_nat, hx]
        refine evs hb ?_
        refine evn nq ?_
        refine Ev.bind hc ?_
        refine evp (by rw [if_neg (by omega)]; split <;> decide) ?_
        refine evs rfl ?_
        refine evp (by simp; omega) ?_
        refine evs rfl ?_
        refine evp (by simp; omega) ?_
        rw [List.nil_append]
        refine Ev.bind hr ?_
        refine Ev.bind hc2 ?_
        rw [w64_succ (by omega)]
        by_cases z : dv r = 0
        · refine evp (by rw [if_neg (by omega), if_neg (by omega)]) ?_
          rw [show decide (S + x < 0) = false from decide_eq_false (by
            rw [vs, vb] at g vr
            unfold iabs at *
            split at g <;> split at g <;> omega)] at hR
          exact hR
        · refine evn (by rw [if_neg (by omega), if_pos (by omega)]; decide) ?_
          rw [show decide (S + x < 0) = decide (S < 0) from decide_eq_decide.2 (by
            rw [vs, vb] at g vr
            unfold iabs at *
            split at g <;> split at g <;> omega)] at hR
          exact hR
    · obtain ⟨r, hr, dr, vr, lr⟩ := less_ok (b ++ [0]) s (dok_snoc db ⟨by omega, by omega⟩) ds (by simp; omega) (by rw [dv_snoc]; omega)
      rw [dv_snoc] at vr
      have lr2 : r.length ≤ 6 + i := by rw [lr]; simp; omega
      have hc2 := cmp_ok r [] dr dok_nil (by omega) (by simp)
      rw [show dv ([] : List Int) = 0 from rfl] at hc2
      refine ⟨r, dr, ?_, lr2, fun R hR => ?_⟩
      · rw [vr, vs, vb]
        rw [vs, vb] at g
        unfold iabs at *
        split at g <;> split at g <;> split <;> omega
      · refine Ev.step (fun k => by rw [regimenref49_Sum.l0]) ?_
        refine evp (by omega) ?_
        refine evp (by omega) ?_
        rw [rd_nat, hx]
        refine evs hb ?_
        refine evn nq ?_
        refine Ev.bind hc ?_
        refine evn (by rw [if_pos (by omega)]; decide) ?_
        refine evs rfl ?_
        refine evp (by simp; omega) ?_
        refine evs rfl ?_
        refine evp (by simp; omega) ?_
        rw [List.nil_append]
        refine Ev.bind hr ?_
        refine Ev.bind hc2 ?_
        rw [w64_succ (by omega)]
        refine evn (by rw [if_neg (by omega), if_pos (by omega)]; decide) ?_
        rw [show decide (S + x < 0) = decide (x < 0) from decide_eq_decide.2 (by
          rw [vs, vb] at g
          unfold iabs at *
          split at g <;> split at g <;> omega)] at hR
        exact hR
theorem ref_sum_loop (l : List Int) (hl : ∀ x, x ∈ l → word' x) (hn : l.length < 1000) (e : Nat) :
    ∀ (i : Nat) (s : List Int), i + e = l.length → dok s → dv s = iabs (tot (fun k => l.getD k 0) i) → s.length ≤ 5 + i →
    ∃ r : List Int, Ev (fun k => regimenref49_Sum.l0 k l s (decide (tot (fun k => l.getD k 0) i < 0)) (i : Int)) (r, decide (tot (fun k => l.getD k 0) l.length < 0)) ∧ dok r ∧ dv r = iabs (tot (fun k => l.getD k 0) l.length) ∧ r.length ≤ 5 + l.length := by
  induction e with
  | zero =>
    intro i s h ds vs ls
    obtain rfl : i = l.length := by omega
    refine ⟨s, ?_, ds, vs, ls⟩
    refine Ev.step (fun k => by rw [regimenref49_Sum.l0]) ?_
    exact evn (by omega) (Ev.now _)
  | succ e ih =>
    intro i s h ds vs ls
    obtain ⟨r, dr, vr, lr, step⟩ := ref_sum_step l s i (tot (fun k => l.getD k 0) i) (l.getD i 0) rfl (by omega) hn (getD_word' hl i) ds vs ls
    obtain ⟨R, hR, dR, vR, lR⟩ := ih (i + 1) r (by omega) dr vr (by omega)
    exact ⟨R, step _ hR, dR, vR, lR⟩
theorem ref_sum_ok (l : List Int) (hl : ∀ x, x ∈ l → word' x) (hn : l.length < 1000) :
    ∃ r : List Int, Ev (fun k => regimenref49_Sum.f k l) (r, decide (tot (fun k => l.getD k 0) l.length < 0)) ∧ dok r ∧ dv r = iabs (tot (fun k => l.getD k 0) l.length) ∧ r.length ≤ 5 + l.length := by
  obtain ⟨r, hr, h⟩ := ref_sum_loop l hl hn l.length 0 [] (by omega) dok_nil (by simp [dv, tot, iabs]) (by simp)
  refine ⟨r, ?_, h⟩
  unfold regimenref49_Sum.f
  exact hr
/-- The least and the greatest of the first i + 1; how many of the first i aren't as the one before. -/
def mnT (T : Nat → Int) : Nat → Int
  | 0 => T 0
  | i + 1 => mn (mnT T i) (T (i + 1))
def mxT (T : Nat → Int) : Nat → Int
  | 0 => T 0
  | i + 1 => mx (mxT T i) (T (i + 1))
def trn (T : Nat → Int) : Nat → Int
  | 0 => 0
  | 1 => 0
  | i + 2 => if T (i + 1) = T i then trn T (i + 1) else trn T (i + 1) + 1
theorem trn_le (T : Nat → Int) (i : Nat) : 0 ≤ trn T i ∧ trn T i ≤ i ∧ 0 ≤ trn T (i + 1) ∧ trn T (i + 1) ≤ i + 1 := by
  induction i with
  | zero => simp [trn]
  | succ i ih =>
    refine ⟨ih.2.2.1, by omega, ?_, ?_⟩ <;> (unfold trn; split <;> omega)
theorem mn_mx_in (T : Nat → Int) (h : ∀ i, word' (T i)) (n : Nat) : word' (mnT T n) ∧ word' (mxT T n) ∧ ∀ k, k < n + 1 → mnT T n ≤ T k ∧ T k ≤ mxT T n := by
  induction n with
  | zero =>
    refine ⟨h 0, h 0, fun k hk => ?_⟩
    rw [show k = 0 from by omega]
    exact ⟨Int.le_refl _, Int.le_refl _⟩
  | succ n ih =>
    obtain ⟨a, b, c⟩ := ih
    have w := h (n + 1)
    rw [show mnT T (n + 1) = mn (mnT T n) (T (n + 1)) from rfl, show mxT T (n + 1) = mx (mxT T n) (T (n + 1)) from rfl]
    unfold mn mx
    refine ⟨?_, ?_, fun k hk => ?_⟩
    · split
      · exact w
      · exact a
    · split
      · exact w
      · exact b
    · by_cases q : k = n + 1
      · rw [q]
        constructor <;> split <;> omega
      · have := c k (by omega)
        constructor <;> split <;> omega
theorem tot_le {T : Nat → Int} {lo hi : Int} (n : Nat) (h : ∀ k, k < n → lo ≤ T k ∧ T k ≤ hi) : lo * n ≤ tot T n ∧ tot T n ≤ hi * n := by
  induction n with
  | zero => simp [tot]
  | succ n ih =>
    have a := ih (fun k hk => h k (by omega))
    have b := h n (by omega)
    rw [show tot T (n + 1) = tot T n + T n from rfl, Int.natCast_add, Int.mul_add, Int.mul_add]
    omega
/-- A mean of n numbers, S in all. -/
def mval (n S : Int) : Int := (sgn (rnd (iabs S) n) (decide (S < 0))).1
theorem mval_in {n S lo hi : Int} (hn : 0 < n) (h0 : lo * n ≤ S) (h1 : S ≤ hi * n) (hlo : word' lo) (hhi : word' hi) : lo ≤ mval n S ∧ mval n S ≤ hi := by
  have l0 := hlo.1
  have l1 := hhi.2
  unfold mval sgn
  by_cases c : S < 0
  · rw [show iabs S = -S from if_pos c, decide_eq_true c, if_pos rfl]
    have a := rnd_le (V := -S) (q := -lo) hn (by rw [Int.neg_mul]; omega)
    have b := rnd_ge (V := -S) (q := -hi) hn (by rw [Int.neg_mul]; omega)
    rw [if_pos (by omega)]
    dsimp only
    omega
  · rw [show iabs S = S from if_neg c, decide_eq_false c, if_neg (by simp)]
    have a := rnd_le (V := S) (q := hi) hn h1
    have b := rnd_ge (V := S) (q := lo) hn h0
    rw [if_pos (by omega)]
    exact ⟨b, a⟩
theorem tot_abs (l : List Int) (hl : ∀ x, x ∈ l → word' x) : iabs (tot (fun k => l.getD k 0) l.length) ≤ 9223372036854775808 * l.length := by
  obtain ⟨u0, u1, d0, d1, ht⟩ := ups_downs (fun k => l.getD k 0) (getD_word' hl) l.length
  rw [ht]
  unfold iabs
  split <;> omega
/-- What numbers come to. -/
def statv (l : List Int) : Int × Int × Int × Int × Int :=
  ((l.length : Int), mnT (fun k => l.getD k 0) (l.length - 1), mxT (fun k => l.getD k 0) (l.length - 1), mval (l.length : Int) (tot (fun k => l.getD k 0) l.length), trn (fun k => l.getD k 0) l.length)
theorem stat_within (l : List Int) (hl : ∀ x, x ∈ l → word' x) (h0 : 0 < l.length) : (statv l).2.1 ≤ (statv l).2.2.2.1 ∧ (statv l).2.2.2.1 ≤ (statv l).2.2.1 := by
  obtain ⟨a, b, c⟩ := mn_mx_in (fun k => l.getD k 0) (getD_word' hl) (l.length - 1)
  have t := tot_le (T := fun k => l.getD k 0) l.length (fun k hk => c k (by omega))
  exact mval_in (by omega) t.1 t.2 a b
theorem min_loop (l : List Int) (hn : l.length < 1000000) (e : Nat) : ∀ i : Nat, i + 1 + e = l.length → Ev (fun k => slices_Min_int_int.l0 k l (mnT (fun k => l.getD k 0) i) ((i + 1 : Nat) : Int)) (mnT (fun k => l.getD k 0) (l.length - 1)) := by
  induction e with
  | zero =>
    intro i h
    refine Ev.step (fun k => by rw [slices_Min_int_int.l0]) ?_
    refine evn (by omega) ?_
    rw [show l.length - 1 = i from by omega]
    exact Ev.now _
  | succ e ih =>
    intro i h
    refine Ev.step (fun k => by rw [slices_Min_int_int.l0]) ?_
    refine evp (by omega) ?_
    refine evp (by omega) ?_
    rw [rd_nat, w64_succ (by omega)]
    exact ih (i + 1) (by omega)
theorem min_ok (l : List Int) (h0 : 0 < l.length) (hn : l.length < 1000000) : Ev (fun k => slices_Min_int_int.f k l) (mnT (fun k => l.getD k 0) (l.length - 1)) := by
  unfold slices_Min_int_int.f
  refine evn (by omega) ?_
  refine evp (by omega) ?_
  rw [show (0 : Int) = ((0 : Nat) : Int) from rfl, rd_nat]
  exact min_loop l hn (l.length - 1) 0 (by omega)
theorem max_loop (l : List Int) (hn : l.length < 1000000) (e : Nat) : ∀ i : Nat, i + 1 + e = l.length → Ev (fun k => slices_Max_int_int.l0 k l (mxT (fun k => l.getD k 0) i) ((i + 1 : Nat) : Int)) (mxT (fun k => l.getD k 0) (l.length - 1)) := by
  induction e with
  | zero =>
    intro i h
    refine Ev.step (fun k => by rw [slices_Max_int_int.l0]) ?_
    refine evn (by omega) ?_
    rw [show l.length - 1 = i from by omega]
    exact Ev.now _
  | succ e ih =>
    intro i h
    refine Ev.step (fun k => by rw [slices_Max_int_int.l0]) ?_
    refine evp (by omega) ?_
    refine evp (by omega) ?_
    rw [rd_nat, w64_succ (by omega)]
    exact ih (i + 1) (by omega)
theorem max_ok (l : List Int) (h0 : 0 < l.length) (hn : l.length < 1000000) : Ev (fun k => slices_Max_int_int.f k l) (mxT (fun k => l.getD k 0) (l.length - 1)) := by
  unfold slices_Max_int_int.f
  refine evn (by omega) ?_
  refine evp (by omega) ?_
  rw [show (0 : Int) = ((0 : Nat) : Int) from rfl, rd_nat]
  exact max_loop l hn (l.length - 1) 0 (by omega)
theorem of_loop (l : List Int) (hn : l.length < 1000000) (c lo hi m : Int) (e : Nat) : ∀ i : Nat, i + e = l.length → Ev (fun k => stats_Of.l0 k l l (l.length : Int) (i : Int) c lo hi m (trn (fun k => l.getD k 0) i)) (c, lo, hi, m, trn (fun k => l.getD k 0) l.length, 0) := by
  induction e with
  | zero =>
    intro i h
    obtain rfl : i = l.length := by omega
    refine Ev.step (fun k => by rw [stats_Of.l0]) ?_
    exact evn (by omega) (Ev.now _)
  | succ e ih =>
    intro i h
    have nx := ih (i + 1) (by omega)
    refine Ev.step (fun k => by rw [stats_Of.l0]) ?_
    refine evp (by omega) ?_
    refine evp (by omega) ?_
    refine evp (by omega) ?_
    rw [w64_succ (by omega)]
    by_cases z : (i : Int) > 0
    · obtain ⟨j, rfl⟩ : ∃ j, i = j + 1 := ⟨i - 1, by omega⟩
      have tl := trn_le (fun k => l.getD k 0) j
      have et : trn (fun k => l.getD k 0) (j + 1 + 1) = if l.getD (j + 1) 0 = l.getD j 0 then trn (fun k => l.getD k 0) (j + 1) else trn (fun k => l.getD k 0) (j + 1) + 1 := rfl
      rw [et] at nx
      refine evp z ?_
      rw [w64_id (x := ((j + 1 : Nat) : Int) - 1) (by omega) (by omega), show ((j + 1 : Nat) : Int) - 1 = (j : Int) from by omega]
      refine evp (by omega) ?_
      refine evp (by omega) ?_
      rw [rd_nat, rd_nat]
      by_cases q : l.getD (j + 1) 0 = l.getD j 0
      · rw [if_pos q] at nx
        exact evp q nx
      · rw [if_neg q] at nx
        rw [w64_id (x := trn (fun k => l.getD k 0) (j + 1) + 1) (by omega) (by omega)]
        exact evn q nx
    · refine evn z ?_
      obtain rfl : i = 0 := by omega
      exact nx
theorem of_ok' (l : List Int) (hl : ∀ x, x ∈ l → word' x) (h0 : 0 < l.length) (hn : l.length < 100000) : Ev (fun k => stats_Of.f k l) ((statv l).1, (statv l).2.1, (statv l).2.2.1, (statv l).2.2.2.1, (statv l).2.2.2.2, 0) := by
  have ta := tot_abs l hl
  have ss := stats_sum_ok l hl (by omega)
  have lo := of_loop l (by omega) (l.length : Int) (mnT (fun k => l.getD k 0) (l.length - 1)) (mxT (fun k => l.getD k 0) (l.length - 1)) (mval (l.length : Int) (tot (fun k => l.getD k 0) l.length)) l.length 0 (by omega)
  unfold statv
  unfold mval at *
  generalize tot (fun k => l.getD k 0) l.length = S at *
  have a0 := iabs_nonneg S
  have r0 := rnd_nonneg a0 (show (0 : Int) < (l.length : Int) by omega)
  have r1 := rnd_le (V := iabs S) (q := 9223372036854775808) (show (0 : Int) < (l.length : Int) by omega) ta
  have ne := half_near_ok (hi := iabs S / 18446744073709551616 % 18446744073709551616) (lo := iabs S % 18446744073709551616) (d := (l.length : Int)) (by omega) (by omega) (by omega) (by omega) (by omega) (by omega)
  rw [split_join a0 (by omega), near_sgn (α := Unit) (by omega), if_pos (by omega)] at ne
  unfold stats_Of.f
  refine evn (by omega) ?_
  refine evn (by omega) ?_
  refine Ev.bind ss ?_
  rw [u64_id (x := (l.length : Int)) (by omega) (by omega)]
  refine Ev.bind ne ?_
  refine Ev.bind (fix_signed_ok (decide (S < 0)) r0 (by omega)) ?_
  refine Ev.bind (min_ok l h0 (by omega)) ?_
  refine Ev.bind (max_ok l h0 (by omega)) ?_
  exact lo
theorem ref_of_loop (l : List Int) (hn : l.length < 1000000) (c m : Int) (e : Nat) : ∀ i : Nat, i + 1 + e = l.length → Ev (fun k => regimenref49_Of.l0 k l ((i + 1 : Nat) : Int) c (mnT (fun k => l.getD k 0) i) (mxT (fun k => l.getD k 0) i) m (trn (fun k => l.getD k 0) (i + 1))) (c, mnT (fun k => l.getD k 0) (l.length - 1), mxT (fun k => l.getD k 0) (l.length - 1), m, trn (fun k => l.getD k 0) l.length) := by
  induction e with
  | zero =>
    intro i h
    rw [show l.length - 1 = i from by omega, show l.length = i + 1 from by omega]
    refine Ev.step (fun k => by rw [regimenref49_Of.l0]) ?_
    exact evn (by omega) (Ev.now _)
  | succ e ih =>
    intro i h
    have nx := ih (i + 1) (by omega)
    have tl := trn_le (fun k => l.getD k 0) i
    have et : trn (fun k => l.getD k 0) (i + 1 + 1) = if l.getD (i + 1) 0 = l.getD i 0 then trn (fun k => l.getD k 0) (i + 1) else trn (fun k => l.getD k 0) (i + 1) + 1 := rfl
    have em : mnT (fun k => l.getD k 0) (i + 1) = if l.getD (i + 1) 0 < mnT (fun k => l.getD k 0) i then l.getD (i + 1) 0 else mnT (fun k => l.getD k 0) i := rfl
    have ex : mxT (fun k => l.getD k 0) (i + 1) = if mxT (fun k => l.getD k 0) i < l.getD (i + 1) 0 then l.getD (i + 1) 0 else mxT (fun k => l.getD k 0) i := rfl
    rw [et, em, ex] at nx
    have j1 : ∀ a, a = (if l.getD (i + 1) 0 < mnT (fun k => l.getD k 0) i then l.getD (i + 1) 0 else mnT (fun k => l.getD k 0) i) → Ev (fun k => regimenref49_Of.j1 k l ((i + 1 : Nat) : Int) c a (mxT (fun k => l.getD k 0) i) m (trn (fun k => l.getD k 0) (i + 1))) (c, mnT (fun k => l.getD k 0) (l.length - 1), mxT (fun k => l.getD k 0) (l.length - 1), m, trn (fun k => l.getD k 0) l.length) := by
      intro a ha
      rw [← ha] at nx
      refine Ev.step (fun k => by rw [regimenref49_Of.j1]) ?_
      refine evp (by omega) ?_
      refine evp (by omega) ?_
      rw [w64_id (x := ((i + 1 : Nat) : Int) - 1) (by omega) (by omega), show ((i + 1 : Nat) : Int) - 1 = (i : Int) from by omega, w64_succ (by omega), rd_nat, rd_nat]
      by_cases p : l.getD (i + 1) 0 > mxT (fun k => l.getD k 0) i
      · rw [if_pos (show mxT (fun k => l.getD k 0) i < l.getD (i + 1) 0 from p)] at nx
        refine evp p ?_
        refine evp (by omega) ?_
        refine evp (by omega) ?_
        by_cases q : l.getD (i + 1) 0 = l.getD i 0
        · rw [if_pos q] at nx
          exact evp q nx
        · rw [if_neg q] at nx
          rw [w64_id (x := trn (fun k => l.getD k 0) (i + 1) + 1) (by omega) (by omega)]
          exact evn q nx
      · rw [if_neg (show ¬ mxT (fun k => l.getD k 0) i < l.getD (i + 1) 0 from p)] at nx
        refine evn p ?_
        refine evp (by omega) ?_
        refine evp (by omega) ?_
        by_cases q : l.getD (i + 1) 0 = l.getD i 0
        · rw [if_pos q] at nx
          exact evp q nx
        · rw [if_neg q] at nx
          rw [w64_id (x := trn (fun k => l.getD k 0) (i + 1) + 1) (by omega) (by omega)]
          exact evn q nx
    refine Ev.step (fun k => by rw [regimenref49_Of.l0]) ?_
    refine evp (by omega) ?_
    refine evp (by omega) ?_
    rw [rd_nat]
    by_cases p : l.getD (i + 1) 0 < mnT (fun k => l.getD k 0) i
    · exact evp p (j1 _ (if_pos p).symm)
    · exact evn p (j1 _ (if_neg p).symm)
theorem ref_of_ok (l : List Int) (hl : ∀ x, x ∈ l → word' x) (h0 : 0 < l.length) (hn : l.length < 80) : Ev (fun k => regimenref49_Of.f k l) (statv l) := by
  obtain ⟨s, hs, ds, vs, ls⟩ := ref_sum_ok l hl (by omega)
  obtain ⟨b, hb, db, vb, lb⟩ := ref_size_ok (x := (l.length : Int)) ⟨by omega, by omega⟩
  rw [show iabs (l.length : Int) = (l.length : Int) from if_neg (by omega)] at vb
  obtain ⟨z, hz, dz, vz, lz⟩ := rounded_ok s b ds db (by omega) (by omega) (by omega)
  have sg := ref_signed_ok z dz (by omega) (decide (tot (fun k => l.getD k 0) l.length < 0))
  rw [vz, vs, vb] at sg
  have lo := ref_of_loop l (by omega) (l.length : Int) (mval (l.length : Int) (tot (fun k => l.getD k 0) l.length)) (l.length - 1) 0 (by omega)
  unfold regimenref49_Of.f
  refine Ev.bind hs ?_
  refine evp (by omega) ?_
  refine evs hb ?_
  refine Ev.bind hz ?_
  refine Ev.bind sg ?_
  rw [show rd l 0 = l.getD 0 0 from rfl]
  exact lo
end Go.Proofs.Ytmakhhgfidgfdaa.Num
