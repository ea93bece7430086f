/- Numbers as decimals (layer 5): a number's own decimal, the reference's, by value. Texts that are parted at a byte, by value. Events' lines (layer 36): the program's and the reference's, by value. How far two numbers are apart (layer 7's reference), by value. Lists that are the same, lists of all of a function's values, copies: by value. Averages in which all count alike (layer 34): the program's and the reference's, by value. Words and lines (layer 45), by value. A step's lines (layer 45), by value. A step's lines (layer 45), by value: the rounds. A step's lines (layer 45), by value: the reference's. A state's lines (layer 45), by value. A state's lines (layer 45), by value: the rounds. A state's lines (layer 45), by value: the reference's. The lines of any step and state, and any status' word. -/
import Derived.Test.YtcgdhpnobgimfaaMOL3
import Derived.Test.YtcgdhpnobgimfaaMOL5
section
namespace Go.Proofs.Ytcgdhpnobgimfaa.Num
set_option linter.unusedVariables false
set_option linter.unusedSimpArgs false
open Go.RowKit Go.Proofs.Ytcgdhpnobgimfaa.PO Go.Proofs.YtcgdhpnobgimfaaW.PrintWords Go.Proofs.YtcgdhpnobgimfaaW.PrintMore

theorem low_digit {r : List Int} (hr : dok r) {v : Int} (h : dv r = v) (h0 : 0 ≤ v) (h1 : v < 65536) (hl : 0 < r.length) : r.getD 0 0 = v := by
  cases r with
  | nil => simp at hl
  | cons x t =>
    have hx := hr x List.mem_cons_self
    have ht := dv_nonneg (dok_tail hr)
    simp only [dv] at h
    show x = v
    omega
theorem text5_loop (m : Nat) : ∀ (u : Int) (a : List Int) (acc : List Int), dok a → dv a = u → 0 ≤ u → u < 10 ^ (m + 1) → a.length + m ≤ 300 → acc.length + m ≤ 100 →
    Ev (fun k => regimenref05_Text.j1 k a (⟨#[48, 49, 50, 51, 52, 53, 54, 55, 56, 57]⟩ : ByteArray) (strOfNums acc) true) (strOfNums (dig (m + 1) u acc)) := by
  have step : ∀ (u : Int) (a : List Int) (acc : List Int) {R : ByteArray}, dok a → dv a = u → 0 ≤ u → a.length ≤ 300 → acc.length ≤ 100 →
      (∀ q : List Int, dok q → dv q = u / 10 → q.length ≤ a.length + 1 → Ev (fun k => regimenref05_Text.l0 k q (⟨#[48, 49, 50, 51, 52, 53, 54, 55, 56, 57]⟩ : ByteArray) (strOfNums ((48 + u % 10) :: acc))) R) →
      Ev (fun k => regimenref05_Text.j1 k a (⟨#[48, 49, 50, 51, 52, 53, 54, 55, 56, 57]⟩ : ByteArray) (strOfNums acc) true) R := by
    intro u a acc R da va h0 la lacc H
    have hten : dv [10] = 10 := by simp [dv]
    obtain ⟨q, hq, dq, vq, lq⟩ := quotient_ok a [10] da (dok_one (by omega)) (by simp) (by omega) (by omega)
    rw [va, hten] at vq
    obtain ⟨p, hp, dp, vp, lp⟩ := times_ok q [10] dq (dok_one (by omega)) (by omega) (by simp)
    rw [vq, hten] at vp
    have da0 : dok (a ++ [0]) := dok_snoc da (by omega)
    have va0 : dv (a ++ [0]) = u := by rw [dv_snoc, va]; simp
    obtain ⟨r, hr, dr, vr, lr⟩ := less_ok (a ++ [0]) p da0 dp (by simp; omega) (by rw [va0, vp]; omega)
    have lr : r.length = a.length + 1 := by rw [lr]; simp
    have v : r.getD 0 0 = u % 10 := low_digit dr (by rw [vr, va0, vp]; omega) (by omega) (by omega) (by omega)
    have hn := digit_str (u % 10).toNat (by omega)
    have e : (⟨#[48, 49, 50, 51, 52, 53, 54, 55, 56, 57]⟩ : ByteArray).extract (u % 10).toNat (u % 10 + 1).toNat = strOfNums [48 + u % 10] := by
      rw [show (u % 10 + 1).toNat = (u % 10).toNat + 1 from by omega, hn, show ((u % 10).toNat : Int) = u % 10 from by omega]
    refine Ev.step (fun k => by rw [regimenref05_Text.j1]) ?_
    refine evp rfl ?_
    refine Ev.bind hq ?_
    refine evs rfl ?_
    refine evp (by simp; omega) ?_
    refine evs rfl ?_
    refine evp (by simp; omega) ?_
    refine Ev.bind hp ?_
    rw [List.nil_append]
    refine Ev.bind hr ?_
    refine evp (by omega) ?_
    rw [show rd r 0 = r.getD 0 0 from rd_nat r 0, v, u64_id (x := u % 10 + 1) (by omega) (by omega), e]
    refine evp (by omega) ?_
    refine evp (by omega) ?_
    refine evp (by show u % 10 + 1 ≤ 10; omega) ?_
    refine evp (by rw [strOfNums_size, strOfNums_size]; simp only [List.length_cons, List.length_nil]; omega) ?_
    rw [str_app]
    exact H q dq vq lq
  have stop : ∀ (q : List Int) (l : List Int) {R : ByteArray}, dok q → q.length ≤ 1000 → 0 < l.length → (dv q = 0 → R = strOfNums l) → (0 < dv q → Ev (fun k => regimenref05_Text.j1 k q (⟨#[48, 49, 50, 51, 52, 53, 54, 55, 56, 57]⟩ : ByteArray) (strOfNums l) true) R) →
      Ev (fun k => regimenref05_Text.l0 k q (⟨#[48, 49, 50, 51, 52, 53, 54, 55, 56, 57]⟩ : ByteArray) (strOfNums l)) R := by
    intro q l R dq lq hl h0 h1
    have nn := dv_nonneg dq
    have hc := cmp_ok q [] dq dok_nil (by omega) (by simp)
    rw [show dv [] = 0 from rfl] at hc
    refine Ev.step (fun k => by rw [regimenref05_Text.l0]) ?_
    refine evn (by rw [strOfNums_size]; omega) ?_
    refine Ev.bind hc ?_
    by_cases c : dv q = 0
    · rw [if_neg (by omega), if_neg (by omega), h0 c]
      refine Ev.step (fun k => by rw [regimenref05_Text.j1]) ?_
      exact evn (by decide) (Ev.now _)
    · rw [if_neg (by omega), if_pos (by omega)]
      exact h1 (by omega)
  induction m with
  | zero =>
    intro u a acc da va h0 h1 la lacc
    have h1 : u < 10 := by simpa using h1
    refine step u a acc da va h0 (by omega) (by omega) fun q dq vq lq => ?_
    refine stop q _ dq (by omega) (by simp) (fun _ => ?_) (fun h => by omega)
    rw [show dig (0 + 1) u acc = (48 + u % 10) :: acc from if_pos (by omega)]
  | succ m ih =>
    intro u a acc da va h0 h1 la lacc
    rw [Int.pow_succ] at h1
    refine step u a acc da va h0 (by omega) (by omega) fun q dq vq lq => ?_
    refine stop q _ dq (by omega) (by simp) (fun h => ?_) (fun h => ?_)
    · rw [show dig (m + 1 + 1) u acc = (48 + u % 10) :: acc from if_pos (by omega)]
    · rw [show dig (m + 1 + 1) u acc = dig (m + 1) (u / 10) ((48 + u % 10) :: acc) from if_neg (by omega)]
      exact ih (u / 10) q _ dq vq (by omega) (by omega) (by omega) (by simp only [List.length_cons]; omega)
theorem text5_ok {a : List Int} {u : Int} (da : dok a) (va : dv a = u) (h0 : 0 ≤ u) (h1 : u < 100000000000000000000) (la : a.length ≤ 200) : Ev (fun k => regimenref05_Text.f k a) (strOfNums (tell u)) := by
  have t := text5_loop 19 u a [] da va h0 (by have : (10 : Int) ^ (19 + 1) = 100000000000000000000 := (by decide); omega) (by omega) (by simp)
  unfold regimenref05_Text.f
  refine Ev.step (fun k => by rw [regimenref05_Text.l0]) ?_
  refine evp (by decide) ?_
  exact t
/-! ### The reference's decimal -/
theorem put_l1 (sign : List Int) (hs : sign.length ≤ 1) {T : List Int} {n : Nat} (hn : n ≤ 10) (e : Nat) : ∀ i : Nat, i + e = n + 1 - T.length → i + T.length ≤ 100 → 0 < T.length →
    Ev (fun k => regimenref05_Put.l1 k (strOfNums sign) (n : Int) (strOfNums (List.replicate i 48 ++ T)))
      (if n = 0 then strOfNums (sign ++ (List.replicate (n + 1 - T.length) 48 ++ T)) else strOfNums (sign ++ ((List.replicate (n + 1 - T.length) 48 ++ T).take ((List.replicate (n + 1 - T.length) 48 ++ T).length - n) ++ (46 :: (List.replicate (n + 1 - T.length) 48 ++ T).drop ((List.replicate (n + 1 - T.length) 48 ++ T).length - n))))) := by
  induction e with
  | zero =>
    intro i h hl hT
    obtain rfl : i = n + 1 - T.length := by omega
    obtain ⟨Z, hZ⟩ : ∃ Z, Z = List.replicate (n + 1 - T.length) 48 ++ T := ⟨_, rfl⟩
    have lZ : Z.length = (n + 1 - T.length) + T.length := by rw [hZ]; simp
    rw [← hZ]
    refine Ev.step (fun k => by rw [regimenref05_Put.l1]) ?_
    rw [strOfNums_size, strOfNums_size]
    refine evn (by omega) ?_
    by_cases c : n = 0
    · rw [if_pos c]
      refine evp (by omega) ?_
      refine evp (by omega) ?_
      rw [str_app]
      exact Ev.now _
    · rw [if_neg c]
      refine evn (by omega) ?_
      rw [w64_id (x := (Z.length : Int) - (n : Int)) (by omega) (by omega)]
      have eT : ((Z.length : Int) - (n : Int)).toNat = Z.length - n := by omega
      rw [eT]
      have e1 : (strOfNums Z).extract 0 (Z.length - n) = strOfNums (Z.take (Z.length - n)) := by
        apply ByteArray.ext
        rw [ByteArray.data_extract]
        apply Array.toList_inj.1
        rw [Array.toList_extract, List.extract_eq_take_drop]
        simp [strOfNums]
      have e2 : (strOfNums Z).extract (Z.length - n) Z.length = strOfNums (Z.drop (Z.length - n)) := by
        apply ByteArray.ext
        rw [ByteArray.data_extract]
        apply Array.toList_inj.1
        rw [Array.toList_extract, List.extract_eq_take_drop]
        show List.take _ (List.drop _ (Z.map fun n => UInt8.ofNat n.toNat)) = (Z.drop _).map _
        rw [List.map_drop, List.take_of_length_le (by rw [List.length_drop, List.length_map]; exact Nat.le_refl _)]
      rw [e1, e2, show (⟨#[46]⟩ : ByteArray) = strOfNums [46] from by decide +kernel, str_app, str_app, str_app, strOfNums_size, strOfNums_size, strOfNums_size, strOfNums_size]
      refine evp (by omega) ?_
      refine evp (by omega) ?_
      refine evp (by rw [List.length_take]; omega) ?_
      refine evp (by rw [List.length_append, List.length_take]; omega) ?_
      refine evp (by rw [List.length_append, List.length_append, List.length_take, List.length_drop]; simp; omega) ?_
      rw [show sign ++ (Z.take (Z.length - n) ++ (46 :: Z.drop (Z.length - n))) = ((sign ++ Z.take (Z.length - n)) ++ [46]) ++ Z.drop (Z.length - n) from by simp]
      exact Ev.now _
  | succ e ih =>
    intro i h hl hT
    have nx := ih (i + 1) (by omega) (by omega) hT
    refine Ev.step (fun k => by rw [regimenref05_Put.l1]) ?_
    refine evp (by rw [strOfNums_size, List.length_append, List.length_replicate]; omega) ?_
    refine evp (by rw [strOfNums_size, List.length_append, List.length_replicate]; omega) ?_
    rw [show (⟨#[48]⟩ : ByteArray) = strOfNums [48] from by decide +kernel, str_app]
    rw [List.replicate_succ] at nx
    exact nx
theorem back_iff {W f : Int} (hf0 : 0 ≤ f) (hf1 : f < 4294967296) (n : Nat) : rnd ((W * 4294967296 + f) * 10 ^ n) 4294967296 = (if n = 0 then rnd (W * 4294967296 + f) 4294967296 else W * 10 ^ n + nd f n) ∧ (rnd (rnd ((W * 4294967296 + f) * 10 ^ n) 4294967296 * 4294967296) (10 ^ n) = W * 4294967296 + f ↔ isback f n) := by
  have p := ten_pos n
  by_cases c : n = 0
  · subst c
    rw [if_pos rfl, show (10 : Int) ^ 0 = 1 from rfl, Int.mul_one]
    refine ⟨rfl, ?_⟩
    have e := rnd_exact (rnd (W * 4294967296 + f) 4294967296 * 4294967296) (d := 1) (by omega)
    rw [Int.mul_one] at e
    rw [e, isback_zero hf0 hf1]
    constructor
    · intro h
      omega
    · intro h
      rw [h, Int.add_zero, rnd_exact W (by omega)]
  · rw [if_neg c]
    have ev := ten_even (n := n) (by omega)
    have e1 : rnd ((W * 4294967296 + f) * 10 ^ n) 4294967296 = W * 10 ^ n + nd f n := by
      have : (W * 4294967296 + f) * 10 ^ n = (W * 10 ^ n) * 4294967296 + f * 10 ^ n := by
        rw [Int.add_mul, Int.mul_assoc, Int.mul_assoc, Int.mul_comm (10 ^ n)]
      rw [this]
      exact rnd_shift _ (by omega) (mul_even ev)
    refine ⟨e1, ?_⟩
    rw [e1]
    have e2 : (W * 10 ^ n + nd f n) * 4294967296 = (W * 4294967296) * 10 ^ n + nd f n * 4294967296 := by
      rw [Int.add_mul, Int.mul_assoc, Int.mul_assoc, Int.mul_comm (10 ^ n)]
    rw [e2, rnd_shift _ p (by omega)]
    unfold isback
    omega
theorem ref_put_l0 {x : Int} (hx : -9223372036854775808 ≤ x ∧ x < 9223372036854775808) {n : Nat} (hf : fewest (iabs x % 4294967296) n) {a : List Int} (da : dok a) (va : dv a = iabs x) (la : a.length ≤ 4) (e : Nat) : ∀ i : Nat, i + e = n →
    Ev (fun k => regimenref05_Put.l0 k a (strOfNums (if x < 0 then [45] else [])) (i : Int)) (strOfNums (putl x n)) := by
  have u0 := iabs_nonneg x
  have u1 := iabs_lt hx
  have h10 := hf.1
  have hu : iabs x / 4294967296 * 4294967296 + iabs x % 4294967296 = iabs x := by omega
  have one : ∀ i : Nat, i ≤ 10 → ∀ {R : ByteArray}, (isback (iabs x % 4294967296) i → ∀ D : List Int, dok D → dv D = rnd (iabs x * 10 ^ i) 4294967296 → D.length ≤ 60 → Ev (fun k => (regimenref05_Text.f k D).bind fun t => regimenref05_Put.l1 k (strOfNums (if x < 0 then [45] else [])) (i : Int) t) R) → (¬ isback (iabs x % 4294967296) i → Ev (fun k => regimenref05_Put.l0 k a (strOfNums (if x < 0 then [45] else [])) ((i + 1 : Nat) : Int)) R) → Ev (fun k => regimenref05_Put.l0 k a (strOfNums (if x < 0 then [45] else [])) (i : Int)) R := by
    intro i hi R hb hnb
    have bk := (back_iff (W := iabs x / 4294967296) (f := iabs x % 4294967296) (by omega) (by omega) i).2
    rw [hu] at bk
    obtain ⟨t, ht, dt, vt, lt⟩ := tens_ok i (by omega)
    obtain ⟨p, hp, dp, vp, lp⟩ := times_ok a t da dt (by omega) (by omega)
    obtain ⟨w, hw, dw, vw, lw⟩ := twos_ok 32 (by omega)
    rw [show (2 : Int) ^ (32 : Int).toNat = 4294967296 from by decide] at vw
    have lw : w.length ≤ 33 := lw
    obtain ⟨D, hD, dD, vD, lD⟩ := rounded_t p w dp dw (by omega) (by omega) (by omega)
    rw [vp, va, vt, vw] at vD
    obtain ⟨z, hz, dz, vz, lz⟩ := read_ok5 D i dD (by omega) (by omega)
    rw [vD] at vz
    have hc := cmp_ok z a dz da (by omega) (by omega)
    rw [vz, va] at hc
    refine Ev.step (fun k => by rw [regimenref05_Put.l0]) ?_
    refine evp (by omega) ?_
    refine Ev.bind ht ?_
    refine Ev.bind hp ?_
    refine Ev.bind hw ?_
    refine Ev.bind hD ?_
    refine Ev.bind hz ?_
    refine Ev.bind hc ?_
    by_cases c : isback (iabs x % 4294967296) i
    · have := bk.2 c
      refine evp (by rw [if_neg (by omega), if_neg (by omega)]) ?_
      exact hb c D dD vD (by omega)
    · have : ¬ _ := fun q => c (bk.1 q)
      refine evn (by split; (omega); split <;> omega) ?_
      rw [w64_succ (by omega)]
      exact hnb c
  induction e with
  | zero =>
    intro i h
    obtain rfl : i = n := by omega
    refine one i h10 (fun _ D dD vD lD => ?_) (fun q => absurd hf.2.1 q)
    have bk := (back_iff (W := iabs x / 4294967296) (f := iabs x % 4294967296) (by omega) (by omega) i).1
    rw [hu] at bk
    have hs : (if x < 0 then [(45 : Int)] else []).length ≤ 1 := by split <;> simp
    have hz := fewest_zero (f := iabs x % 4294967296) (by omega) (by omega) hf
    by_cases c : i = 0
    · have f0 := hz.1 c
      have vD2 : dv D = iabs x / 4294967296 := by
        have e := rnd_exact (iabs x / 4294967296) (d := 4294967296) (by omega)
        rw [show iabs x / 4294967296 * 4294967296 = iabs x from by omega] at e
        rw [vD, bk, if_pos c]
        exact e
      refine Ev.bind (text5_ok dD vD2 (by omega) (by omega) (by omega)) ?_
      obtain ⟨l0, l1, hd, hv, hzz⟩ := tell_ex (u := iabs x / 4294967296) (by omega) (by omega)
      have l := put_l1 (if x < 0 then [45] else []) hs (T := tell (iabs x / 4294967296)) (n := i) (by omega) 0 0 (by omega) (by omega) l0
      rw [if_pos c, show i + 1 - (tell (iabs x / 4294967296)).length = 0 from by omega] at l
      unfold putl
      rw [if_pos c, List.append_nil]
      exact l
    · have lt := nd_lt (f := iabs x % 4294967296) (by omega) (by omega) hf.2.1
      have bd := nd_le (f := iabs x % 4294967296) i (by omega) (by omega)
      have vD2 : dv D = iabs x / 4294967296 * 10 ^ i + nd (iabs x % 4294967296) i := by
        rw [vD, bk, if_neg c]
      have hm := ten_mono (m := i) (n := 10) (by omega)
      have e10 : (10 : Int) ^ 10 = 10000000000 := by decide
      have p := ten_pos i
      have hb := mul_bd (x := iabs x / 4294967296) (y := 10 ^ i) (M := 2147483648) (N := 10000000000) (by omega) (by omega) (by omega) (by omega)
      refine Ev.bind (text5_ok dD vD2 (by omega) (by omega) (by omega)) ?_
      obtain ⟨l0, l1, hd, hv, hzz⟩ := tell_ex (u := iabs x / 4294967296 * 10 ^ i + nd (iabs x % 4294967296) i) (by omega) (by omega)
      have sp := split_text (W := iabs x / 4294967296) (d := nd (iabs x % 4294967296) i) (n := i) (by omega) (by omega) (by omega) (by omega) bd.1 lt
      have l := put_l1 (if x < 0 then [45] else []) hs (T := tell (iabs x / 4294967296 * 10 ^ i + nd (iabs x % 4294967296) i)) (n := i) (by omega) (i + 1 - (tell (iabs x / 4294967296 * 10 ^ i + nd (iabs x % 4294967296) i)).length) 0 (by omega) (by omega) l0
      have pl := padn_len i (nd (iabs x % 4294967296) i)
      rw [if_neg c, sp, List.length_append, pl, Nat.add_sub_cancel, List.take_left', List.drop_left'] at l
      · unfold putl
        rw [if_neg c]
        exact l
      · rfl
      · rfl
  | succ e ih =>
    intro i h
    have nx := ih (i + 1) (by omega)
    exact one i (by omega) (fun q => absurd q (hf.2.2 i (by omega))) (fun _ => nx)
theorem ref_put_ok {x : Int} (hx : -9223372036854775808 ≤ x ∧ x < 9223372036854775808) {n : Nat} (hf : fewest (iabs x % 4294967296) n) : Ev (fun k => regimenref05_Put.f k x) (strOfNums (putl x n)) := by
  obtain ⟨a, ha, da, va, la⟩ := ref_size_ok hx
  have l := ref_put_l0 hx hf da va (by omega) n 0 (by omega)
  unfold regimenref05_Put.f
  refine evs ha ?_
  by_cases c : x < 0
  · rw [if_pos c] at l
    refine evp c ?_
    refine Ev.step (fun k => by rw [regimenref05_Put.j0]) ?_
    exact l
  · rw [if_neg c] at l
    refine evn c ?_
    refine Ev.step (fun k => by rw [regimenref05_Put.j0]) ?_
    exact l
end Go.Proofs.Ytcgdhpnobgimfaa.Num
end
section
namespace Go.Proofs.Ytcgdhpnobgimfaa.Num
set_option linter.unusedVariables false
set_option linter.unusedSimpArgs false
open Go.RowKit Go.Proofs.Ytcgdhpnobgimfaa.PO Go.Proofs.YtcgdhpnobgimfaaW.PrintWords Go.Proofs.YtcgdhpnobgimfaaW.PrintMore

theorem tl_eq (s t : ByteArray) : s.toList = t.toList ↔ s = t := by
  rw [ByteArray.toList_eq, ByteArray.toList_eq]
  constructor
  · intro h
    exact ByteArray.ext (Array.ext' h)
  · rintro rfl
    rfl
theorem nums_inj {s t : ByteArray} (h : numsOf s = numsOf t) : s = t := by rw [← str_nums s, ← str_nums t, h]
/-- What stands ahead of the first c. -/
def bef (c : Int) : List Int → List Int
  | [] => []
  | x :: t => if x = c then [] else x :: bef c t
theorem bef_none {c : Int} : ∀ {l : List Int}, c ∉ l → bef c l = l
  | [], _ => rfl
  | x :: t, h => by
    rw [show bef c (x :: t) = x :: bef c t from if_neg (fun e => h (by simp [e])), bef_none (fun q => h (by simp [q]))]
theorem bef_some {c : Int} : ∀ {l : List Int}, c ∈ l → l = bef c l ++ c :: l.drop ((bef c l).length + 1) ∧ c ∉ bef c l
  | [], h => by cases h
  | x :: t, h => by
    by_cases e : x = c
    · subst e
      rw [show bef x (x :: t) = [] from if_pos rfl]
      exact ⟨rfl, by simp⟩
    · rw [show bef c (x :: t) = x :: bef c t from if_neg e]
      have hm : c ∈ t := by
        rcases List.mem_cons.1 h with q | q
        · exact absurd q.symm e
        · exact q
      obtain ⟨h1, h2⟩ := bef_some hm
      refine ⟨?_, ?_⟩
      · rw [List.cons_append, List.length_cons, List.drop_succ_cons, ← h1]
      · intro q
        rcases List.mem_cons.1 q with q | q
        · exact e q.symm
        · exact h2 q
theorem bef_of {c : Int} : ∀ {a r : List Int}, c ∉ a → bef c (a ++ c :: r) = a
  | [], r, _ => if_pos rfl
  | x :: t, r, h => by
    rw [List.cons_append, show bef c (x :: (t ++ c :: r)) = x :: bef c (t ++ c :: r) from if_neg (fun e => h (by simp [e])), bef_of (fun q => h (by simp [q]))]
theorem bef_le {c : Int} {l : List Int} (h : c ∈ l) : (bef c l).length < l.length := by
  have := congrArg List.length (bef_some h).1
  rw [List.length_append, List.length_cons] at this
  omega
theorem bef_take {c : Int} {l : List Int} (h : c ∈ l) : l.take (bef c l).length = bef c l := by
  have e := congrArg (List.take (bef c l).length) (bef_some h).1
  rw [List.take_left' rfl] at e
  exact e
theorem index_list (c : UInt8) : ∀ L : List UInt8, Lib.indexByte L c = if (c.toNat : Int) ∈ L.map (fun b => (b.toNat : Int)) then ((bef (c.toNat : Int) (L.map fun b => (b.toNat : Int))).length : Int) else -1
  | [] => rfl
  | b :: t => by
    have ih := index_list c t
    show (if b == c then 0 else if Lib.indexByte t c == -1 then -1 else Lib.indexByte t c + 1) = _
    rw [List.map_cons]
    by_cases e : b = c
    · subst e
      rw [if_pos (by simp), if_pos (by simp), show bef (b.toNat : Int) ((b.toNat : Int) :: _) = [] from if_pos rfl]
      rfl
    · have ne : (b.toNat : Int) ≠ (c.toNat : Int) := fun q => e (UInt8.toNat_inj.1 (by omega))
      rw [if_neg (by simpa using e), show bef (c.toNat : Int) ((b.toNat : Int) :: t.map _) = (b.toNat : Int) :: bef (c.toNat : Int) (t.map _) from if_neg ne]
      by_cases m : (c.toNat : Int) ∈ t.map (fun b => (b.toNat : Int))
      · rw [if_pos m] at ih
        have n1 : ¬ ((Lib.indexByte t c == -1) = true) := by
          rw [beq_iff_eq, ih]
          omega
        rw [if_neg n1, if_pos (List.mem_cons_of_mem _ m), ih, List.length_cons]
        omega
      · rw [if_neg m] at ih
        have n1 : (Lib.indexByte t c == -1) = true := by rw [ih]; rfl
        have n2 : ¬ ((c.toNat : Int) ∈ (b.toNat : Int) :: t.map (fun b => (b.toNat : Int))) := fun q => by
          rcases List.mem_cons.1 q with q | q
          · exact ne q.symm
          · exact m q
        rw [if_pos n1, if_neg n2]
theorem index_nums (s : ByteArray) (c : UInt8) : Lib.indexByte s.data.toList c = if (c.toNat : Int) ∈ numsOf s then ((bef (c.toNat : Int) (numsOf s)).length : Int) else -1 := index_list c _
theorem nums_one (b : UInt8) : numsOf (⟨#[b]⟩ : ByteArray) = [(b.toNat : Int)] := rfl
end Go.Proofs.Ytcgdhpnobgimfaa.Num
end
section
namespace Go.Proofs.Ytcgdhpnobgimfaa.Num
set_option linter.unusedVariables false
set_option linter.unusedSimpArgs false
open Go.RowKit Go.Proofs.Ytcgdhpnobgimfaa.PO Go.Proofs.YtcgdhpnobgimfaaW.PrintWords Go.Proofs.YtcgdhpnobgimfaaW.PrintMore

theorem tellv_size {n : Int} (h : -9223372036854775808 ≤ n ∧ n < 9223372036854775808) : (tellv n).size ≤ 21 := by
  unfold tellv
  split
  · obtain ⟨m, e, l0, l1, _⟩ := dig_props 19 (-n) [] (by omega) (by have := p20; omega)
    rw [strOfNums_size, List.length_cons, e, List.append_nil]
    omega
  · obtain ⟨m, e, l0, l1, _⟩ := dig_props 19 n [] (by omega) (by have := p20; omega)
    rw [strOfNums_size, e, List.append_nil]
    omega
/-- Any number's digits, as bytes. -/
def telll (n : Int) : List Int := if n < 0 then 45 :: dig 20 (-n) [] else dig 20 n []
theorem tellv_telll (n : Int) : tellv n = strOfNums (telll n) := by
  unfold tellv telll
  split <;> rfl
theorem telll_byte {n : Int} (h : -9223372036854775808 ≤ n ∧ n < 9223372036854775808) : numsOf (tellv n) = telll n ∧ ∀ x, x ∈ telll n → x = 45 ∨ isDig x := by
  have key : ∀ u : Int, 0 ≤ u → u ≤ 9223372036854775808 → ∀ x, x ∈ dig 20 u [] → isDig x := by
    intro u h0 h1
    obtain ⟨m, e, l0, l1, hd, _⟩ := dig_props 19 u [] h0 (by have := p20; omega)
    rw [e, List.append_nil]
    exact hd
  have a : ∀ x, x ∈ telll n → x = 45 ∨ isDig x := by
    unfold telll
    split
    · intro x hx
      rcases List.mem_cons.1 hx with q | q
      · exact .inl q
      · exact .inr (key _ (by omega) (by omega) x q)
    · intro x hx
      exact .inr (key _ (by omega) (by omega) x hx)
  refine ⟨?_, a⟩
  rw [tellv_telll]
  refine nums_str fun x hx => ?_
  rcases a x hx with q | q
  · omega
  · unfold isDig at q
    omega
theorem telll_get {n : Int} (h : -9223372036854775808 ≤ n ∧ n < 9223372036854775808) : (n < 0 ∨ n > 1099511627776 → (getv (telll n)).2 ≠ 0) ∧ (¬ (n < 0 ∨ n > 1099511627776) → getv (telll n) = (n, 0)) := by
  constructor
  · rintro q e
    obtain ⟨b, _, v1, v0, hd⟩ := get_back e
    unfold telll at *
    by_cases c : n < 0
    · rw [if_pos c] at b
      exact b (.inr (.inl (by
        rw [show lead (45 :: dig 20 (-n) []) = 0 from if_neg (by unfold isDig; omega)]
        simp)))
    · rw [if_neg c] at v1
      obtain ⟨m, e, l0, l1, hd, hv, _⟩ := dig_props 19 n [] (by omega) (by have := p20; omega)
      rw [e, List.append_nil, hv] at v1
      omega
  · intro q
    unfold telll
    rw [if_neg (by omega)]
    exact (get_of (u := n) (by omega) (by omega)).1
def wordsL : List ByteArray := regimenref36_Words.f.getD []
/-- A kind's word. -/
def word (k : Int) : ByteArray := if 0 ≤ k ∧ k < 12 then rdOf ByteArray.empty wordsL k else ⟨#[]⟩
theorem words_ok : regimenref36_Words.f = some wordsL := rfl
theorem words_len : (wordsL.length : Int) = 12 := rfl
theorem word_ok36 (k : Int) : events_Word.f k = some (word k) := by
  unfold events_Word.f word
  split <;> rfl
theorem word_rd {k : Int} (h0 : 0 ≤ k) (h1 : k < 12) : rdOf ByteArray.empty wordsL k = word k := (if_pos ⟨h0, h1⟩).symm
theorem word_nat : ∀ i : Nat, i < 12 → (numsOf (word i)).length ≤ 6 ∧ 32 ∉ numsOf (word i) ∧ numsOf (word i) ≠ [63] ∧ (i = 0 ↔ numsOf (word i) = []) := by decide +kernel
theorem word_nat2 : ∀ i : Nat, i < 12 → ∀ j : Nat, j < 12 → numsOf (word i) = numsOf (word j) → i = j := by decide +kernel
theorem word_all (k : Int) : (word k).size ≤ 6 ∧ 32 ∉ numsOf (word k) ∧ ((word k).toList = ([] : List UInt8) ↔ ¬ (1 ≤ k ∧ k ≤ 11)) := by
  rw [toList_nil, ← nums_len]
  by_cases c : 0 ≤ k ∧ k < 12
  · obtain ⟨i, rfl⟩ : ∃ i : Nat, k = (i : Int) := ⟨k.toNat, by omega⟩
    have w := word_nat i (by omega)
    refine ⟨w.1, w.2.1, ?_⟩
    rw [← w.2.2.2]
    omega
  · have e : word k = ⟨#[]⟩ := if_neg c
    rw [e]
    refine ⟨by decide, by decide, ?_⟩
    simp only [show numsOf (⟨#[]⟩ : ByteArray) = [] from rfl, true_iff]
    omega
/-- An event's line. -/
def headW (k : Int) : ByteArray := if 1 ≤ k ∧ k ≤ 11 then word k else ⟨#[63]⟩
def lineV (k n : Int) : ByteArray := headW k ++ (⟨#[32]⟩ : ByteArray) ++ tellv n
theorem headW_all (k : Int) : (headW k).size ≤ 6 ∧ 32 ∉ numsOf (headW k) := by
  unfold headW
  split
  · exact ⟨(word_all k).1, (word_all k).2.1⟩
  · exact ⟨by decide, by decide⟩
theorem size_app (a b : ByteArray) : (a ++ b).size = a.size + b.size := ByteArray.size_append
theorem line_nums {k n : Int} (h : -9223372036854775808 ≤ n ∧ n < 9223372036854775808) : numsOf (lineV k n) = numsOf (headW k) ++ 32 :: telll n := by
  unfold lineV
  rw [nums_app, nums_app, (telll_byte h).1, nums_one, List.append_assoc]
  rfl
theorem line_size {k n : Int} (h : -9223372036854775808 ≤ n ∧ n < 9223372036854775808) : (lineV k n).size ≤ 28 := by
  unfold lineV
  rw [size_app, size_app]
  have := (headW_all k).1
  have := tellv_size h
  have e : (⟨#[32]⟩ : ByteArray).size = 1 := rfl
  omega
theorem line_ok (s k : Int) {n : Int} (h : -9223372036854775808 ≤ n ∧ n < 9223372036854775808) : Ev (fun q => events_Line.f q s k n) (lineV k n) := by
  have w := word_all k
  have t := tellv_size h
  have e : (⟨#[32]⟩ : ByteArray).size = 1 := rfl
  unfold events_Line.f lineV headW
  refine evs (word_ok36 k) ?_
  by_cases c : 1 ≤ k ∧ k ≤ 11
  · rw [if_pos c]
    refine evn (fun q => w.2.2.1 q c) ?_
    refine evp (by omega) ?_
    refine Ev.bind (tell_ok h) ?_
    refine evp (by rw [size_app]; omega) ?_
    exact Ev.now _
  · rw [if_neg c]
    refine evp (w.2.2.2 c) ?_
    refine evp (by omega) ?_
    refine Ev.bind (tell_ok h) ?_
    refine evp (by rw [size_app]; have e2 : (⟨#[63]⟩ : ByteArray).size = 1 := rfl; omega) ?_
    exact Ev.now _
theorem ref_line_ok (s k : Int) {n : Int} (h : -9223372036854775808 ≤ n ∧ n < 9223372036854775808) : Ev (fun q => regimenref36_Line.f q s k n) (lineV k n) := by
  have w := word_all k
  have t := tellv_size h
  have e : (⟨#[32]⟩ : ByteArray).size = 1 := rfl
  have j : ∀ b : Bool, (b = true ↔ (1 ≤ k ∧ k ≤ 11)) → Ev (fun q => regimenref36_Line.j0 q (⟨#[63]⟩ : ByteArray) b s k n) (lineV k n) := by
    intro b hb
    refine Ev.step (fun q => by rw [regimenref36_Line.j0]) ?_
    unfold lineV headW
    by_cases c : b = true
    · have c2 := hb.1 c
      rw [if_pos c2]
      refine evp c ?_
      refine evs words_ok ?_
      refine evp (by omega) ?_
      refine evp (by rw [words_len]; omega) ?_
      rw [word_rd (by omega) (by omega)]
      refine evp (by omega) ?_
      refine Ev.bind (ref_tell_ok h) ?_
      refine evp (by rw [size_app]; omega) ?_
      exact Ev.now _
    · rw [if_neg (fun q => c (hb.2 q))]
      refine evn c ?_
      have e2 : (⟨#[63]⟩ : ByteArray).size = 1 := rfl
      refine evp (by omega) ?_
      refine Ev.bind (ref_tell_ok h) ?_
      refine evp (by rw [size_app]; omega) ?_
      exact Ev.now _
  unfold regimenref36_Line.f
  by_cases c : k ≥ 1
  · refine evp c (j _ ?_)
    rw [decide_eq_true_eq]
    omega
  · refine evn c (j _ ?_)
    simp only [Bool.false_eq_true, false_iff]
    omega
/-! ### Which event a line is -/
def findW (a : List Int) : Nat → Nat → Option Nat
  | 0, _ => none
  | d + 1, i => if numsOf (word i) = a then some i else findW a d (i + 1)
/-- What a line comes to, from the kind i on. -/
def parsed (step : Int) (l : List Int) (d i : Nat) : Int × Int × Int × Bool :=
  if 32 ∈ l ∧ (getv (l.drop ((bef 32 l).length + 1))).2 = 0 then
    (match findW (bef 32 l) d i with
      | some j => (step, (j : Int), (getv (l.drop ((bef 32 l).length + 1))).1, true)
      | none => (0, 0, 0, false))
  else (0, 0, 0, false)
theorem pre_iff {w l : List Int} {c : Int} (hw : c ∉ w) (hl : w.length + 1 ≤ l.length) : l.take (w.length + 1) = w ++ [c] ↔ c ∈ l ∧ w = bef c l := by
  constructor
  · intro h
    have e : l = w ++ c :: l.drop (w.length + 1) := by
      conv => lhs; rw [← List.take_append_drop (w.length + 1) l, h]
      rw [List.append_assoc]
      rfl
    refine ⟨by rw [e]; simp, ?_⟩
    conv => rhs; rw [e]
    exact (bef_of hw).symm
  · rintro ⟨m, e⟩
    have h := (bef_some m).1
    rw [← e] at h
    conv => lhs; rw [h]
    rw [List.take_append, List.take_of_length_le (by omega), show w.length + 1 - w.length = 1 from by omega]
    rfl
theorem find_some {a : List Int} (d : Nat) : ∀ (i j : Nat), findW a d i = some j → i ≤ j ∧ j < i + d ∧ numsOf (word j) = a := by
  induction d with
  | zero =>
    intro i j h
    cases h
  | succ d ih =>
    intro i j h
    by_cases c : numsOf (word i) = a
    · rw [show findW a (d + 1) i = some i from if_pos c] at h
      cases h
      exact ⟨Nat.le_refl _, by omega, c⟩
    · rw [show findW a (d + 1) i = findW a d (i + 1) from if_neg c] at h
      have := ih _ _ h
      exact ⟨by omega, by omega, this.2.2⟩
theorem find_none {a : List Int} (d : Nat) : ∀ (i : Nat), findW a d i = none → ∀ j, i ≤ j → j < i + d → numsOf (word j) ≠ a := by
  induction d with
  | zero =>
    intro i h j h0 h1
    omega
  | succ d ih =>
    intro i h j h0 h1
    by_cases c : numsOf (word i) = a
    · rw [show findW a (d + 1) i = some i from if_pos c] at h
      cases h
    · rw [show findW a (d + 1) i = findW a d (i + 1) from if_neg c] at h
      rcases Nat.lt_or_ge i j with q | q
      · exact ih _ h j (by omega) (by omega)
      · obtain rfl : i = j := by omega
        exact c
/-- What an event's own line comes to. -/
theorem parsed_line (s k : Int) {n : Int} (h : -9223372036854775808 ≤ n ∧ n < 9223372036854775808) : parsed s (numsOf (lineV k n)) 11 1 = if (1 ≤ k ∧ k ≤ 11) ∧ ¬ (n < 0 ∨ n > 1099511627776) then (s, k, n, true) else (0, 0, 0, false) := by
  have hw := (headW_all k).2
  rw [line_nums h]
  unfold parsed
  have hb : bef 32 (numsOf (headW k) ++ 32 :: telll n) = numsOf (headW k) := bef_of hw
  have hd : (numsOf (headW k) ++ 32 :: telll n).drop ((numsOf (headW k)).length + 1) = telll n := by
    rw [← List.drop_drop, List.drop_left]
    rfl
  rw [hb, hd]
  have g := telll_get h
  by_cases c : n < 0 ∨ n > 1099511627776
  · rw [if_neg (fun q => g.1 c q.2), if_neg (fun q => q.2 c)]
  · rw [g.2 c, if_pos ⟨by simp, rfl⟩]
    by_cases d : 1 ≤ k ∧ k ≤ 11
    · rw [if_pos ⟨d, c⟩]
      have e : headW k = word k := if_pos d
      rw [e]
      obtain ⟨i, rfl⟩ : ∃ i : Nat, k = (i : Int) := ⟨k.toNat, by omega⟩
      cases f : findW (numsOf (word i)) 11 1 with
      | none => exact absurd rfl (find_none 11 1 f i (by omega) (by omega))
      | some j =>
        have := find_some 11 1 j f
        have := word_nat2 j (by omega) i (by omega) this.2.2
        subst this
        rfl
    · rw [if_neg (fun q => d q.1)]
      have e : headW k = ⟨#[63]⟩ := if_neg d
      rw [e]
      cases f : findW (numsOf (⟨#[63]⟩ : ByteArray)) 11 1 with
      | none => rfl
      | some j =>
        have q := find_some 11 1 j f
        exact absurd q.2.2 (word_nat j (by omega)).2.2.1
/-- A line that is an event's is that one's own. -/
theorem parsed_back {s : Int} {b : ByteArray} (h : (parsed s (numsOf b) 11 1).2.2.2 = true) : lineV (parsed s (numsOf b) 11 1).2.1 (parsed s (numsOf b) 11 1).2.2.1 = b ∧ (1 ≤ (parsed s (numsOf b) 11 1).2.1 ∧ (parsed s (numsOf b) 11 1).2.1 ≤ 11) ∧ (0 ≤ (parsed s (numsOf b) 11 1).2.2.1 ∧ (parsed s (numsOf b) 11 1).2.2.1 ≤ 1099511627776) ∧ (parsed s (numsOf b) 11 1).1 = s := by
  unfold parsed at *
  by_cases c : 32 ∈ numsOf b ∧ (getv ((numsOf b).drop ((bef 32 (numsOf b)).length + 1))).2 = 0
  · rw [if_pos c] at *
    cases f : findW (bef 32 (numsOf b)) 11 1 with
    | none =>
      rw [f] at h
      cases h
    | some j =>
      dsimp only
      have q := find_some 11 1 j f
      obtain ⟨_, v, v1, v0, hd⟩ := get_back c.2
      rw [v]
      refine ⟨?_, by omega, ⟨v0, v1⟩, rfl⟩
      refine nums_inj ?_
      rw [line_nums (by omega)]
      conv => rhs; rw [(bef_some c.1).1]
      have e : headW (j : Int) = word (j : Int) := if_pos (by omega)
      rw [e, q.2.2]
      congr 2
      unfold telll
      rw [if_neg (by omega)]
      exact hd
  · rw [if_neg c] at h
    cases h
end Go.Proofs.Ytcgdhpnobgimfaa.Num
end
section
namespace Go.Proofs.Ytcgdhpnobgimfaa.Num
set_option linter.unusedVariables false
set_option linter.unusedSimpArgs false
open Go.RowKit Go.Proofs.Ytcgdhpnobgimfaa.PO Go.Proofs.YtcgdhpnobgimfaaW.PrintWords Go.Proofs.YtcgdhpnobgimfaaW.PrintMore

end Go.Proofs.Ytcgdhpnobgimfaa.Num
end
section
namespace Go.Proofs.Ytcgdhpnobgimfaa.Num
set_option linter.unusedVariables false
set_option linter.unusedSimpArgs false
open Go.RowKit Go.Proofs.Ytcgdhpnobgimfaa.PO Go.Proofs.YtcgdhpnobgimfaaW.PrintWords Go.Proofs.YtcgdhpnobgimfaaW.PrintMore

/-- The first n values of T. -/
def tab (T : Nat → Int) (n : Nat) : List Int := (List.range n).map T
theorem tab_length (T : Nat → Int) (n : Nat) : (tab T n).length = n := by simp [tab]
theorem tab_succ (T : Nat → Int) (n : Nat) : tab T (n + 1) = tab T n ++ [T n] := by simp [tab, List.range_succ]
theorem tab_at (T : Nat → Int) (n i : Nat) (h : i < n) : (tab T n).getD i 0 = T i := by
  rw [List.getD_eq_getElem?_getD]
  simp [tab, h]
theorem tab_of {a : List Int} {T : Nat → Int} {n : Nat} (hl : a.length = n) (h : ∀ i, i < n → a.getD i 0 = T i) : a = tab T n := by
  refine List.ext_getElem? (fun i => ?_)
  by_cases c : i < n
  · have := h i c
    rw [List.getD_eq_getElem?_getD, List.getElem?_eq_getElem (by omega)] at this
    rw [List.getElem?_eq_getElem (by omega)]
    simp only [Option.getD_some] at this
    rw [this]
    simp [tab, c]
  · rw [List.getElem?_eq_none (by omega), List.getElem?_eq_none (by rw [tab_length]; omega)]
theorem tab_self (l : List Int) : tab (fun i => l.getD i 0) l.length = l := (tab_of rfl (fun i _ => rfl)).symm
theorem getD_set_i (l : List Int) (i j : Nat) (v : Int) (hi : i < l.length) : (l.set i v).getD j 0 = if i = j then v else l.getD j 0 := by
  rw [List.getD_eq_getElem?_getD, List.getD_eq_getElem?_getD, List.getElem?_set]
  by_cases c : i = j
  · rw [if_pos c, if_pos c, if_pos (by omega)]
    rfl
  · rw [if_neg c, if_neg c]
def word' (x : Int) : Prop := -9223372036854775808 ≤ x ∧ x < 9223372036854775808
theorem getD_word' {l : List Int} (h : ∀ x, x ∈ l → word' x) (i : Nat) : word' (l.getD i 0) := by
  rw [List.getD_eq_getElem?_getD]
  cases c : l[i]? with
  | none => exact ⟨by simp, by simp⟩
  | some v => exact h v (List.mem_of_getElem? c)
end Go.Proofs.Ytcgdhpnobgimfaa.Num
end
section
namespace Go.Proofs.Ytcgdhpnobgimfaa.Num
set_option linter.unusedVariables false
set_option linter.unusedSimpArgs false
open Go.RowKit Go.Proofs.Ytcgdhpnobgimfaa.PO Go.Proofs.YtcgdhpnobgimfaaW.PrintWords Go.Proofs.YtcgdhpnobgimfaaW.PrintMore

/-- May a sum be? -/
def smay (c : Int) (s : List Int) : Prop := 0 ≤ c ∧ c ≤ 1048576 ∧ (c = 0 → s.length = 0)
instance (c : Int) (s : List Int) : Decidable (smay c s) := by unfold smay; infer_instance
theorem swa_check_ok (c : Int) (s : List Int) : swa_Check.f c s = some (if smay c s then 0 else 1) := by
  unfold swa_Check.f
  by_cases c1 : c < 0
  · rw [if_pos c1, if_neg (by unfold smay; omega)]
  · rw [if_neg c1]
    by_cases c2 : c > 1048576
    · rw [if_pos c2, if_neg (by unfold smay; omega)]
    · rw [if_neg c2]
      by_cases c3 : c = 0
      · rw [if_pos c3]
        by_cases c4 : (s.length : Int) > 0
        · rw [if_pos c4, if_neg (by unfold smay; omega)]
        · rw [if_neg c4, if_pos (by unfold smay; omega)]
      · rw [if_neg c3, if_pos (by unfold smay; omega)]
theorem ref_smay_ok (c : Int) (s : List Int) : regimenref34_May.f c s = some (decide (smay c s)) := by
  unfold regimenref34_May.f
  by_cases c1 : c ≥ 0
  · rw [if_pos c1]
    by_cases c2 : c ≤ 1048576
    · rw [if_pos c2]
      by_cases c3 : c > 0
      · rw [if_pos c3, decide_eq_true (by unfold smay; omega)]
      · rw [if_neg c3]
        congr 1
        by_cases c4 : s.length = 0
        · rw [decide_eq_true (by unfold smay; omega)]
          simp [c4]
        · rw [decide_eq_false (by unfold smay; omega)]
          simpa using c4
    · rw [if_neg c2, decide_eq_false (by unfold smay; omega)]
  · rw [if_neg c1, decide_eq_false (by unfold smay; omega)]
/-- A mean. -/
def meanv (c x : Int) : Int := (sgn (rnd (iabs x) c) (decide (x < 0))).1
theorem mean_rnd {c x : Int} (hx : word' x) (hc : 0 < c) : 0 ≤ rnd (iabs x) c ∧ rnd (iabs x) c ≤ 9223372036854775808 := by
  have a := iabs_nonneg x
  have b := iabs_lt hx
  refine ⟨rnd_nonneg a hc, Int.le_trans (rnd_le hc (q := iabs x) ?_) b⟩
  have := Int.mul_le_mul_of_nonneg_left (show 1 ≤ c by omega) a
  omega
theorem swa_mean_loop (c : Int) (s : List Int) (hs : ∀ x, x ∈ s → word' x) (hc : 0 < c) (hc2 : c ≤ 1048576) (hn : s.length < 1000000) (e : Nat) :
    ∀ (i : Nat), i + e = s.length → Ev (fun k => swa_Mean.l0 k (tab (fun i => meanv c (s.getD i 0)) i) s (s.length : Int) (i : Int) c s) (tab (fun i => meanv c (s.getD i 0)) s.length, 0) := by
  induction e with
  | zero =>
    intro i h
    obtain rfl : i = s.length := by omega
    refine Ev.step (fun k => by rw [swa_Mean.l0]) ?_
    exact evn (by omega) (Ev.now _)
  | succ e ih =>
    intro i h
    have nx := ih (i + 1) (by omega)
    rw [tab_succ] at nx
    have wx := getD_word' hs i
    have ab := iabs_lt wx
    have a0 := iabs_nonneg (s.getD i 0)
    have mr := mean_rnd wx hc
    have ne := half_near_ok (hi := 0) (lo := iabs (s.getD i 0)) (d := c) (by omega) (by omega) a0 (by omega) (by omega) (by omega)
    rw [show iabs (s.getD i 0) + 18446744073709551616 * 0 = iabs (s.getD i 0) from by omega, near_sgn (α := Unit) (by omega), if_pos (by omega)] at ne
    refine Ev.step (fun k => by rw [swa_Mean.l0]) ?_
    refine evp (by omega) ?_
    refine evp (by omega) ?_
    refine evp (by omega) ?_
    rw [rd_nat]
    refine evs (fix_size_ok wx) ?_
    rw [u64_id (x := c) (by omega) (by omega)]
    refine Ev.bind ne ?_
    refine Ev.bind (fix_signed_ok (decide (s.getD i 0 < 0)) mr.1 (by omega)) ?_
    refine evp (by rw [tab_length]; omega) ?_
    rw [w64_succ (by omega)]
    exact nx
theorem swa_mean_ok (c : Int) (s : List Int) (hs : ∀ x, x ∈ s → word' x) (hn : s.length < 1000000) (hm : smay c s) : Ev (fun k => swa_Mean.f k c s) (tab (fun i => meanv c (s.getD i 0)) s.length, 0) := by
  unfold swa_Mean.f
  refine evs (swa_check_ok c s) ?_
  rw [if_pos hm]
  refine evp rfl ?_
  by_cases c0 : c = 0
  · have := hm.2.2 c0
    obtain rfl : s = [] := List.eq_nil_of_length_eq_zero this
    refine Ev.step (fun k => by rw [swa_Mean.l0]) ?_
    exact evn (by simp) (Ev.now _)
  · have h0 := hm.1
    exact swa_mean_loop c s hs (by omega) hm.2.1 hn s.length 0 (by omega)
theorem swa_mean_no (c : Int) (s : List Int) (hm : ¬ smay c s) : Ev (fun k => swa_Mean.f k c s) ([], 1) := by
  unfold swa_Mean.f
  refine evs (swa_check_ok c s) ?_
  rw [if_neg hm]
  exact evn (by decide) (Ev.now _)
theorem ref_mean_loop (c : Int) (s : List Int) (hs : ∀ x, x ∈ s → word' x) (hc : 0 < c) (hc2 : c ≤ 1048576) (hn : s.length < 1000000) (e : Nat) :
    ∀ (i : Nat), i + e = s.length → Ev (fun k => regimenref34_Mean.l0 k (tab (fun i => meanv c (s.getD i 0)) i) (i : Int) c s) (tab (fun i => meanv c (s.getD i 0)) s.length) := by
  induction e with
  | zero =>
    intro i h
    obtain rfl : i = s.length := by omega
    refine Ev.step (fun k => by rw [regimenref34_Mean.l0]) ?_
    exact evn (by omega) (Ev.now _)
  | succ e ih =>
    intro i h
    have nx := ih (i + 1) (by omega)
    rw [tab_succ] at nx
    have wx := getD_word' hs i
    obtain ⟨a, ha, da, va, la⟩ := ref_size_ok wx
    obtain ⟨b, hb, db, vb, lb⟩ := ref_size_ok (x := c) ⟨by omega, by omega⟩
    rw [show iabs c = c from if_neg (by omega)] at vb
    obtain ⟨z, hz, dz, vz, lz⟩ := rounded_ok a b da db (by omega) (by omega) (by omega)
    rw [va, vb] at vz
    have sg := ref_signed_ok z dz (by omega) (decide (s.getD i 0 < 0))
    rw [vz] at sg
    refine Ev.step (fun k => by rw [regimenref34_Mean.l0]) ?_
    refine evp (by omega) ?_
    refine evp (by omega) ?_
    rw [rd_nat]
    refine evs ha ?_
    refine evs hb ?_
    refine Ev.bind hz ?_
    refine Ev.bind sg ?_
    refine evp (by rw [tab_length]; omega) ?_
    rw [w64_succ (by omega)]
    exact nx
end Go.Proofs.Ytcgdhpnobgimfaa.Num
end
section
namespace Go.Proofs.Ytcgdhpnobgimfaa.Num
set_option linter.unusedVariables false
set_option linter.unusedSimpArgs false
open Go.RowKit Go.Proofs.Ytcgdhpnobgimfaa.PO Go.Proofs.YtcgdhpnobgimfaaW.PrintWords Go.Proofs.YtcgdhpnobgimfaaW.PrintMore

theorem Ev.uniq {α : Type} {g : Nat → Option α} {a b : α} (h : Ev g a) (k : Ev g b) : a = b := by
  obtain ⟨K, h⟩ := h
  obtain ⟨L, k⟩ := k
  have := (h (max K L) (by omega)).symm.trans (k (max K L) (by omega))
  simpa using this
/-- A number's decimal. -/
noncomputable def decS (x : Int) : ByteArray := strOfNums (putl x (Classical.choose (fewest_ex (f := iabs x % 4294967296))))
theorem dput_ok {x : Int} (hx : word' x) : Ev (fun k => dec_Put.f k x) (decS x) := dec_put_ok hx (Classical.choose_spec fewest_ex)
theorem rput_ok {x : Int} (hx : word' x) : Ev (fun k => regimenref05_Put.f k x) (decS x) := ref_put_ok hx (Classical.choose_spec fewest_ex)
theorem decS_size {x : Int} (hx : word' x) : (decS x).size ≤ 100 := by
  unfold decS
  have h := Classical.choose_spec (fewest_ex (f := iabs x % 4294967296))
  generalize Classical.choose (fewest_ex (f := iabs x % 4294967296)) = n at h
  have := (putl_byte x n hx).2
  have := h.1
  rw [strOfNums_size]
  omega
/-- Words, a blank ahead of each. -/
def tailS : List ByteArray → ByteArray
  | [] => ⟨#[]⟩
  | b :: l => (⟨#[32]⟩ : ByteArray) ++ b ++ tailS l
theorem tailS_size {l : List ByteArray} (h : ∀ b, b ∈ l → b.size ≤ 100) : (tailS l).size ≤ 101 * l.length := by
  induction l with
  | nil => exact Nat.le_refl _
  | cons b l ih =>
    have := ih fun c hc => h c (List.mem_cons_of_mem _ hc)
    have := h b List.mem_cons_self
    have e : (⟨#[32]⟩ : ByteArray).size = 1 := rfl
    rw [tailS, size_app, size_app, List.length_cons]
    omega
theorem ba_ext {a b : ByteArray} (h : a.data.toList = b.data.toList) : a = b := by
  cases a
  cases b
  simpa using h
theorem ba_app (a b : ByteArray) : (a ++ b).data.toList = a.data.toList ++ b.data.toList := by simp
theorem app_assoc (a b c : ByteArray) : a ++ b ++ c = a ++ (b ++ c) := ba_ext (by simp only [ba_app, List.append_assoc])
theorem app_nil (a : ByteArray) : a ++ (⟨#[]⟩ : ByteArray) = a := ba_ext (by rw [ba_app]; exact List.append_nil _)
theorem join_tail (b : ByteArray) (l : List ByteArray) : (⟨(Lib.join ((b :: l).map (·.data.toList)) [32]).toArray⟩ : ByteArray) = b ++ tailS l := by
  induction l generalizing b with
  | nil =>
    refine ba_ext ?_
    rw [tailS, app_nil]
    simp [Lib.join]
  | cons c l ih =>
    refine ba_ext ?_
    have := congrArg (fun x : ByteArray => x.data.toList) (ih c)
    simp only [ba_app] at this
    rw [tailS, ba_app, ba_app, ba_app, List.append_assoc, ← this]
    simp [Lib.join, List.intercalate]
theorem line_join {b : ByteArray} {l : List ByteArray} (hb : b.size ≤ 100) (hl : l.length ≤ 1000) (h : ∀ b, b ∈ l → b.size ≤ 100) : output_line.f (b :: l) = some (b ++ tailS l) := by
  have e := join_tail b l
  have z : (Lib.join ((b :: l).map (·.data.toList)) [32]).length = b.size + (tailS l).size := by
    rw [← size_app, ← e]
    exact List.size_toArray.symm
  have := tailS_size h
  unfold output_line.f strings_Join.f
  have e2 : (⟨#[32]⟩ : ByteArray).data.toList = [32] := rfl
  rw [e2, if_pos ⟨by rw [List.length_cons]; omega, by rw [z]; omega⟩, e]
  rfl
theorem getD_get {l : List Int} {i : Nat} (h : i < l.length) : l.getD i 0 = l[i] := by rw [List.getD_eq_getElem?_getD, List.getElem?_eq_getElem h]; rfl
/-- Numbers' decimals. -/
noncomputable def decL (l : List Int) : List ByteArray := l.map decS
theorem dec_loop (l : List Int) (hl : ∀ x, x ∈ l → word' x) (hn : l.length < 1000000) (e : Nat) : ∀ i : Nat, i + e = l.length →
    Ev (fun k => output_decimals.l0 k ((l.take i).map decS) l (l.length : Int) (i : Int)) (decL l) := by
  induction e with
  | zero =>
    intro i h
    refine Ev.step (fun k => by rw [output_decimals.l0]) ?_
    refine evn (by omega) ?_
    rw [List.take_of_length_le (by omega)]
    exact Ev.now _
  | succ e ih =>
    intro i h
    refine Ev.step (fun k => by rw [output_decimals.l0]) ?_
    refine evp (by omega) ?_
    refine evp (by omega) ?_
    refine evp (by omega) ?_
    rw [rd_nat]
    refine Ev.bind (dput_ok (getD_word' hl i)) ?_
    refine evp (by rw [List.length_map, List.length_take]; omega) ?_
    rw [w64_succ (by omega)]
    have := ih (i + 1) (by omega)
    rw [List.take_add_one, List.getElem?_eq_getElem (by omega), List.map_append] at this
    rw [getD_get (by omega)]
    exact this
theorem decs_ok {l : List Int} (hl : ∀ x, x ∈ l → word' x) (hn : l.length < 1000000) : Ev (fun k => output_decimals.f k l) (decL l) := by
  unfold output_decimals.f
  exact dec_loop l hl hn l.length 0 (by omega)
theorem decL_size {l : List Int} (hl : ∀ x, x ∈ l → word' x) : ∀ b, b ∈ decL l → b.size ≤ 100 := by
  intro b hb
  obtain ⟨x, hx, rfl⟩ := List.mem_map.1 hb
  exact decS_size (hl x hx)
theorem decL_len (l : List Int) : (decL l).length = l.length := List.length_map _
theorem tailS_app (a b : List ByteArray) : tailS (a ++ b) = tailS a ++ tailS b := by
  induction a with
  | nil =>
    refine ba_ext ?_
    rw [ba_app]
    rfl
  | cons x a ih => rw [List.cons_append, tailS, tailS, ih, app_assoc, app_assoc, app_assoc]
theorem tail_loop (l : List Int) (hl : ∀ x, x ∈ l → word' x) (hn : l.length < 1000000) (e : Nat) : ∀ i : Nat, i + e = l.length →
    Ev (fun k => regimenref45_tail.l0 k l (tailS (decL (l.take i))) (i : Int)) (tailS (decL l)) := by
  induction e with
  | zero =>
    intro i h
    refine Ev.step (fun k => by rw [regimenref45_tail.l0]) ?_
    refine evn (by omega) ?_
    rw [List.take_of_length_le (by omega)]
    exact Ev.now _
  | succ e ih =>
    intro i h
    have z := tailS_size (decL_size (l := l.take i) fun x hx => hl x (List.mem_of_mem_take hx))
    rw [decL_len, List.length_take] at z
    have z1 := decS_size (getD_word' hl i)
    refine Ev.step (fun k => by rw [regimenref45_tail.l0]) ?_
    refine evp (by omega) ?_
    refine evp (by omega) ?_
    refine evp (by omega) ?_
    rw [rd_nat]
    refine Ev.bind (rput_ok (getD_word' hl i)) ?_
    refine evp (by rw [size_app, show (⟨#[32]⟩ : ByteArray).size = 1 from rfl]; omega) ?_
    rw [w64_succ (by omega)]
    have := ih (i + 1) (by omega)
    rw [List.take_add_one, List.getElem?_eq_getElem (by omega), decL, List.map_append, tailS_app] at this
    rw [getD_get (by omega), app_assoc]
    simp only [Option.toList, List.map_cons, List.map_nil, tailS, app_nil] at this
    exact this
theorem tail_ok {l : List Int} (hl : ∀ x, x ∈ l → word' x) (hn : l.length < 1000000) : Ev (fun k => regimenref45_tail.f k l) (tailS (decL l)) := by
  unfold regimenref45_tail.f
  exact tail_loop l hl hn l.length 0 (by omega)
/-- A status' word. -/
def wordS (a : Int) : ByteArray := (output_Word.f a).getD ⟨#[]⟩
theorem oword_ok (a : Int) : output_Word.f a = some (wordS a) := by
  unfold wordS output_Word.f
  repeat' split
  all_goals rfl
theorem rword_ok (a : Int) : regimenref45_Word.f a = some (wordS a) := by
  unfold wordS output_Word.f regimenref45_Word.f
  by_cases h : a < 0
  · rw [if_pos h, if_neg (by omega), if_neg (by omega), if_neg (by omega), if_neg (by omega)]
    rfl
  · rw [if_neg h]
    by_cases h3 : a > 3
    · rw [if_pos h3, if_neg (by omega), if_neg (by omega), if_neg (by omega), if_neg (by omega)]
      rfl
    · rw [if_neg h3]
      obtain rfl | rfl | rfl | rfl : a = 0 ∨ a = 1 ∨ a = 2 ∨ a = 3 := by omega
      all_goals rfl
theorem wordS_size (a : Int) : (wordS a).size ≤ 10 := by
  unfold wordS output_Word.f
  repeat' split
  all_goals decide
theorem texts_loop (l : List ByteArray) (hn : l.length < 1000000) (e : Nat) : ∀ i : Nat, i + e = l.length → Ev (fun k => regimenref01_Texts.l0 k l l (i : Int)) true := by
  induction e with
  | zero =>
    intro i h
    refine Ev.step (fun k => by rw [regimenref01_Texts.l0]) ?_
    refine evn (by omega) ?_
    exact Ev.now _
  | succ e ih =>
    intro i h
    refine Ev.step (fun k => by rw [regimenref01_Texts.l0]) ?_
    refine evp (by omega) ?_
    refine evp (by omega) ?_
    refine evp (by omega) ?_
    refine evp rfl ?_
    rw [w64_succ (by omega)]
    exact ih (i + 1) (by omega)
theorem texts_ok (l : List ByteArray) (hn : l.length < 1000000) : Ev (fun k => regimenref01_Texts.f k l l) true := by
  unfold regimenref01_Texts.f
  refine evp rfl ?_
  exact texts_loop l hn l.length 0 (by omega)
end Go.Proofs.Ytcgdhpnobgimfaa.Num
end
section
namespace Go.Proofs.Ytcgdhpnobgimfaa.Num
set_option linter.unusedVariables false
set_option linter.unusedSimpArgs false
open Go.RowKit Go.Proofs.Ytcgdhpnobgimfaa.PO Go.Proofs.YtcgdhpnobgimfaaW.PrintWords Go.Proofs.YtcgdhpnobgimfaaW.PrintMore

abbrev EvT := Int × Int × Int × Unit
abbrev OutT := Int × Int × (List Int) × (List Bool) × (List EvT) × Int × Unit
theorem tellv_100 {n : Int} (h : word' n) : (tellv n).size ≤ 100 := Nat.le_trans (tellv_size h) (by decide)
theorem sz_one : (⟨#[32]⟩ : ByteArray).size = 1 := rfl
theorem sz_two : (⟨#[32, 32]⟩ : ByteArray).size = 2 := rfl
/-- The words of a group's line behind its number. -/
noncomputable def grpW (o : OutT) (i : Nat) : List ByteArray := decL ((o.2.2.1.take (3 * i + 3)).drop (3 * i)) ++ (if i < o.2.2.2.1.length ∧ o.2.2.2.1.getD i false = true then [(⟨#[102, 114, 111, 122, 101, 110]⟩ : ByteArray)] else [])
noncomputable def grpS (o : OutT) (i : Nat) : ByteArray := (⟨#[32, 32, 103, 114, 111, 117, 112]⟩ : ByteArray) ++ tailS (tellv (i : Int) :: grpW o i)
def evS (e : EvT) : ByteArray := (⟨#[32, 32]⟩ : ByteArray) ++ lineV e.2.1 e.2.2.1
def headS (o : OutT) : ByteArray := (⟨#[115, 116, 101, 112]⟩ : ByteArray) ++ tailS [tellv o.1, (⟨#[112, 104, 97, 115, 101]⟩ : ByteArray), tellv o.2.1, wordS o.2.2.2.2.2.1]
/-- What a step is made of. -/
structure OutOk (o : OutT) : Prop where
  step : word' o.1
  phase : word' o.2.1
  vals : ∀ x, x ∈ o.2.2.1 → word' x
  nv : o.2.2.1.length ≤ 60
  nf : o.2.2.2.1.length ≤ 60
  ne : o.2.2.2.2.1.length ≤ 60
  evs : ∀ e, e ∈ o.2.2.2.2.1 → word' e.2.2.1
noncomputable def stepL (o : OutT) : List ByteArray := [headS o] ++ (List.range' 0 (o.2.2.1.length / 3)).map (grpS o) ++ (o.2.2.2.2.1.drop 0).map evS
section
variable {o : OutT} (ok : OutOk o)
include ok
theorem grp_vals {i : Nat} : ∀ x, x ∈ (o.2.2.1.take (3 * i + 3)).drop (3 * i) → word' x := fun x hx => ok.vals x (List.mem_of_mem_take (List.mem_of_mem_drop hx))
theorem grp_len {i : Nat} : ((o.2.2.1.take (3 * i + 3)).drop (3 * i)).length ≤ 60 := by
  rw [List.length_drop, List.length_take]
  have := ok.nv
  omega
theorem group_ok {i : Nat} (h : 3 * i + 3 ≤ o.2.2.1.length) : Ev (fun k => output_group_s.f k o (i : Int)) (grpS o i) := by
  have nv := ok.nv
  have g := grp_len ok (i := i)
  have gv := grp_vals ok (i := i)
  unfold output_group_s.f
  refine Ev.bind (tell_ok (by omega)) ?_
  have e1 : wrap64 ((3 : Int) * (i : Int)) = ((3 * i : Nat) : Int) := by rw [w64_id (by omega) (by omega)]; omega
  have e2 : wrap64 ((3 : Int) * (wrap64 ((i : Int) + (1 : Int)))) = ((3 * i + 3 : Nat) : Int) := by rw [w64_id (x := (i : Int) + 1) (by omega) (by omega), w64_id (by omega) (by omega)]; omega
  rw [e1, e2]
  refine evp (by omega) ?_
  refine evp (by omega) ?_
  refine evp (by omega) ?_
  have dk := decs_ok gv (by omega)
  refine Ev.bind dk ?_
  refine evp (by rw [decL_len]; simp only [List.length_cons, List.length_nil, Int.toNat_natCast]; omega) ?_
  have fin : ∀ l : List ByteArray, l.length ≤ 100 → (∀ b, b ∈ l → b.size ≤ 100) → Ev (fun k => output_group_s.j4 k ((⟨#[32, 32, 103, 114, 111, 117, 112]⟩ : ByteArray) :: l)) ((⟨#[32, 32, 103, 114, 111, 117, 112]⟩ : ByteArray) ++ tailS l) := by
    intro l hl hb
    refine Ev.step (fun k => by rw [output_group_s.j4]) ?_
    refine evs (line_join (by decide) (by omega) hb) ?_
    exact Ev.now _
  have hb : ∀ b, b ∈ tellv (i : Int) :: grpW o i → b.size ≤ 100 := by
    intro b h
    rcases List.mem_cons.1 h with rfl | h
    · exact tellv_100 (by unfold word'; omega)
    · unfold grpW at h
      rcases List.mem_append.1 h with h | h
      · exact decL_size gv b h
      · split at h
        · rw [List.mem_singleton.1 h]
          decide
        · cases h
  have hl : (tellv (i : Int) :: grpW o i).length ≤ 100 := by
    unfold grpW
    rw [List.length_cons, List.length_append, decL_len]
    split <;> simp only [List.length_cons, List.length_nil] <;> omega
  have key := fin _ hl hb
  unfold grpS
  unfold grpW at key ⊢
  by_cases c : i < o.2.2.2.1.length
  · refine evp (by omega) ?_
    refine evp (by omega) ?_
    refine evp (by omega) ?_
    by_cases c2 : o.2.2.2.1.getD i false = true
    · rw [if_pos ⟨c, c2⟩] at key ⊢
      refine evp c2 ?_
      refine evp (by simp only [List.length_append, List.length_cons, List.length_nil, decL_len, Int.toNat_natCast]; omega) ?_
      exact key
    · rw [if_neg (fun h => c2 h.2)] at key ⊢
      refine evn c2 ?_
      rw [List.append_nil] at key ⊢
      exact key
  · rw [if_neg (fun h => c h.1)] at key ⊢
    refine evn (by omega) ?_
    rw [List.append_nil] at key ⊢
    exact key
end
end Go.Proofs.Ytcgdhpnobgimfaa.Num
end
section
namespace Go.Proofs.Ytcgdhpnobgimfaa.Num
set_option linter.unusedVariables false
set_option linter.unusedSimpArgs false
open Go.RowKit Go.Proofs.Ytcgdhpnobgimfaa.PO Go.Proofs.YtcgdhpnobgimfaaW.PrintWords Go.Proofs.YtcgdhpnobgimfaaW.PrintMore

theorem drop_cons {α : Type} {l : List α} {i : Nat} (d : α) (h : i < l.length) : l.drop i = l.getD i d :: l.drop (i + 1) := by
  rw [List.drop_eq_getElem_cons h, List.getD_eq_getElem?_getD, List.getElem?_eq_getElem h]
  rfl
theorem mem_getD {α : Type} {l : List α} {i : Nat} (d : α) (h : i < l.length) : l.getD i d ∈ l := by
  rw [List.getD_eq_getElem?_getD, List.getElem?_eq_getElem h]
  exact List.getElem_mem h
theorem step_l8 (es : List EvT) (he : ∀ e, e ∈ es → word' e.2.2.1) (hn : es.length ≤ 60) (d : Nat) : ∀ (i : Nat) (acc : List ByteArray), i + d = es.length → acc.length + d ≤ 100000 →
    Ev (fun k => output_Step_s.l8 k acc es (es.length : Int) (i : Int)) (acc ++ (es.drop i).map evS) := by
  induction d with
  | zero =>
    intro i acc h ha
    refine Ev.step (fun k => by rw [output_Step_s.l8]) ?_
    refine evn (by omega) ?_
    rw [List.drop_eq_nil_of_le (by omega), List.map_nil, List.append_nil]
    exact Ev.now _
  | succ d ih =>
    intro i acc h ha
    have hw := he _ (mem_getD (0, 0, 0, ()) (i := i) (by omega : i < es.length))
    have z := line_size (k := (es.getD i (0, 0, 0, ())).2.1) hw
    refine Ev.step (fun k => by rw [output_Step_s.l8]) ?_
    refine evp (by omega) ?_
    refine evp (by omega) ?_
    refine evp (by omega) ?_
    refine Ev.bind (line_ok _ _ hw) ?_
    refine evp (by rw [sz_two]; simp only [Int.toNat_natCast]; omega) ?_
    refine evp (by simp only [List.length_cons, List.length_nil]; omega) ?_
    rw [w64_succ (by omega)]
    have := ih (i + 1) (acc ++ [evS (es.getD i (0, 0, 0, ()))]) (by omega) (by simp only [List.length_append, List.length_cons, List.length_nil]; omega)
    rw [List.append_assoc] at this
    rw [drop_cons (0, 0, 0, ()) (by omega : i < es.length), List.map_cons]
    exact this
section
variable {o : OutT} (ok : OutOk o)
include ok
theorem step_l3 (n : Nat) (hn : 3 * n ≤ o.2.2.1.length) (d : Nat) : ∀ (i : Nat) (acc : List ByteArray), i + d = n → acc.length + d ≤ 10000 →
    Ev (fun k => output_Step_s.l3 k acc (n : Int) (i : Int) o) (acc ++ (List.range' i d).map (grpS o) ++ (o.2.2.2.2.1.drop 0).map evS) := by
  have nv := ok.nv
  have ne := ok.ne
  induction d with
  | zero =>
    intro i acc h ha
    refine Ev.step (fun k => by rw [output_Step_s.l3]) ?_
    refine evn (by omega) ?_
    rw [List.range'_zero, List.map_nil, List.append_nil]
    exact step_l8 _ ok.evs ne o.2.2.2.2.1.length 0 acc (by omega) (by omega)
  | succ d ih =>
    intro i acc h ha
    refine Ev.step (fun k => by rw [output_Step_s.l3]) ?_
    refine evp (by omega) ?_
    refine Ev.bind (group_ok ok (by omega)) ?_
    refine evp (by simp only [List.length_cons, List.length_nil]; omega) ?_
    rw [w64_succ (by omega)]
    have := ih (i + 1) (acc ++ [grpS o i]) (by omega) (by simp only [List.length_append, List.length_cons, List.length_nil]; omega)
    rw [List.range'_succ, List.map_cons]
    simp only [List.append_assoc, List.cons_append, List.nil_append] at this ⊢
    exact this
theorem step_ok : Ev (fun k => output_Step_s.f k o) (stepL o) := by
  have nv := ok.nv
  unfold output_Step_s.f
  refine Ev.bind (tell_ok ok.step) ?_
  refine Ev.bind (tell_ok ok.phase) ?_
  refine evs (oword_ok _) ?_
  have hb : ∀ b, b ∈ [tellv o.1, (⟨#[112, 104, 97, 115, 101]⟩ : ByteArray), tellv o.2.1, wordS o.2.2.2.2.2.1] → b.size ≤ 100 := by
    intro b h
    simp only [List.mem_cons, List.not_mem_nil, or_false] at h
    rcases h with rfl | rfl | rfl | rfl
    · exact tellv_100 ok.step
    · decide
    · exact tellv_100 ok.phase
    · exact Nat.le_trans (wordS_size _) (by decide)
  refine evs (line_join (by decide) (by simp only [List.length_cons, List.length_nil]; omega) hb) ?_
  refine evn (by decide) ?_
  have e : wrap64 (Int.tdiv (o.2.2.1.length : Int) (3 : Int)) = ((o.2.2.1.length / 3 : Nat) : Int) := by
    rw [Int.tdiv_eq_ediv_of_nonneg (by omega), w64_id (by omega) (by omega)]
    omega
  rw [e]
  exact step_l3 ok (o.2.2.1.length / 3) (by omega) (o.2.2.1.length / 3) 0 _ (by omega) (by simp only [List.length_cons, List.length_nil]; omega)
end
end Go.Proofs.Ytcgdhpnobgimfaa.Num
end
section
namespace Go.Proofs.Ytcgdhpnobgimfaa.Num
set_option linter.unusedVariables false
set_option linter.unusedSimpArgs false
open Go.RowKit Go.Proofs.Ytcgdhpnobgimfaa.PO Go.Proofs.YtcgdhpnobgimfaaW.PrintWords Go.Proofs.YtcgdhpnobgimfaaW.PrintMore

theorem rstep_l10 (o : OutT) (he : ∀ e, e ∈ o.2.2.2.2.1 → word' e.2.2.1) (hn : o.2.2.2.2.1.length ≤ 60) (d : Nat) : ∀ (i : Nat) (acc : List ByteArray), i + d = o.2.2.2.2.1.length → acc.length + d ≤ 100000 →
    Ev (fun k => regimenref45_Step_s.l10 k acc (i : Int) o) (acc ++ (o.2.2.2.2.1.drop i).map evS) := by
  induction d with
  | zero =>
    intro i acc h ha
    refine Ev.step (fun k => by rw [regimenref45_Step_s.l10]) ?_
    refine evn (by omega) ?_
    rw [List.drop_eq_nil_of_le (by omega), List.map_nil, List.append_nil]
    exact Ev.now _
  | succ d ih =>
    intro i acc h ha
    have hw := he _ (mem_getD (0, 0, 0, ()) (i := i) (by omega : i < o.2.2.2.2.1.length))
    have z := line_size (k := (o.2.2.2.2.1.getD i (0, 0, 0, ())).2.1) hw
    refine Ev.step (fun k => by rw [regimenref45_Step_s.l10]) ?_
    refine evp (by omega) ?_
    refine evp (by omega) ?_
    refine evp (by omega) ?_
    refine Ev.bind (ref_line_ok _ _ hw) ?_
    refine evp (by rw [sz_two]; simp only [Int.toNat_natCast]; omega) ?_
    refine evp (by simp only [List.length_cons, List.length_nil]; omega) ?_
    rw [w64_succ (by omega)]
    have := ih (i + 1) (acc ++ [evS (o.2.2.2.2.1.getD i (0, 0, 0, ()))]) (by omega) (by simp only [List.length_append, List.length_cons, List.length_nil]; omega)
    rw [List.append_assoc] at this
    rw [drop_cons (0, 0, 0, ()) (by omega : i < o.2.2.2.2.1.length), List.map_cons]
    exact this
section
variable {o : OutT} (ok : OutOk o)
include ok
theorem rstep_l3 (d : Nat) : ∀ (i : Nat) (acc : List ByteArray), i + d = o.2.2.1.length / 3 → acc.length + d ≤ 10000 →
    Ev (fun k => regimenref45_Step_s.l3 k acc (i : Int) o) (acc ++ (List.range' i d).map (grpS o) ++ (o.2.2.2.2.1.drop 0).map evS) := by
  have nv := ok.nv
  have ne := ok.ne
  induction d with
  | zero =>
    intro i acc h ha
    refine Ev.step (fun k => by rw [regimenref45_Step_s.l3]) ?_
    have e1 : wrap64 (wrap64 ((3 : Int) * (i : Int)) + (2 : Int)) = ((3 * i + 2 : Nat) : Int) := by rw [w64_id (x := (3 : Int) * (i : Int)) (by omega) (by omega), w64_id (by omega) (by omega)]; omega
    rw [e1]
    refine evn (by omega) ?_
    rw [List.range'_zero, List.map_nil, List.append_nil]
    exact rstep_l10 o ok.evs ne o.2.2.2.2.1.length 0 acc (by omega) (by omega)
  | succ d ih =>
    intro i acc h ha
    have g := grp_len ok (i := i)
    have gv := grp_vals ok (i := i)
    have ti : word' (i : Int) := by unfold word'; omega
    have zt := tellv_100 ti
    have zd := tailS_size (decL_size gv)
    rw [decL_len] at zd
    have c8 : (⟨#[32, 32, 103, 114, 111, 117, 112, 32]⟩ : ByteArray).size = 8 := rfl
    have c7 : (⟨#[32, 102, 114, 111, 122, 101, 110]⟩ : ByteArray).size = 7 := rfl
    refine Ev.step (fun k => by rw [regimenref45_Step_s.l3]) ?_
    have e0 : wrap64 ((3 : Int) * (i : Int)) = ((3 * i : Nat) : Int) := by rw [w64_id (by omega) (by omega)]; omega
    have e1 : wrap64 (((3 * i : Nat) : Int) + (2 : Int)) = ((3 * i + 2 : Nat) : Int) := by rw [w64_id (by omega) (by omega)]; omega
    have e2 : wrap64 (((3 * i : Nat) : Int) + (3 : Int)) = ((3 * i + 3 : Nat) : Int) := by rw [w64_id (by omega) (by omega)]; omega
    rw [e0, e1, e2]
    refine evp (by omega) ?_
    refine Ev.bind (ref_tell_ok ti) ?_
    refine evp (by omega) ?_
    refine evp (by omega) ?_
    refine evp (by omega) ?_
    refine evp (by omega) ?_
    have dk := tail_ok gv (by omega)
    refine Ev.bind dk ?_
    refine evp (by rw [size_app]; omega) ?_
    have fin : ∀ s : ByteArray, s = grpS o i → Ev (fun k => regimenref45_Step_s.j8 k acc (i : Int) s o) (acc ++ (List.range' i (d + 1)).map (grpS o) ++ (o.2.2.2.2.1.drop 0).map evS) := by
      rintro s rfl
      refine Ev.step (fun k => by rw [regimenref45_Step_s.j8]) ?_
      refine evp (by simp only [List.length_cons, List.length_nil]; omega) ?_
      refine Ev.step (fun k => by rw [regimenref45_Step_s.j4]) ?_
      rw [w64_succ (by omega)]
      have := ih (i + 1) (acc ++ [grpS o i]) (by omega) (by simp only [List.length_append, List.length_cons, List.length_nil]; omega)
      rw [List.range'_succ, List.map_cons]
      simp only [List.append_assoc, List.cons_append, List.nil_append] at this ⊢
      exact this
    have e8 : (⟨#[32, 32, 103, 114, 111, 117, 112, 32]⟩ : ByteArray) = (⟨#[32, 32, 103, 114, 111, 117, 112]⟩ : ByteArray) ++ (⟨#[32]⟩ : ByteArray) := rfl
    have e7 : (⟨#[32, 102, 114, 111, 122, 101, 110]⟩ : ByteArray) = tailS [(⟨#[102, 114, 111, 122, 101, 110]⟩ : ByteArray)] := rfl
    by_cases c : i < o.2.2.2.1.length
    · refine evp (by omega) ?_
      refine evp (by omega) ?_
      refine evp (by omega) ?_
      by_cases c2 : o.2.2.2.1.getD i false = true
      · refine evp c2 ?_
        refine evp (by rw [size_app, size_app]; omega) ?_
        refine fin _ ?_
        unfold grpS grpW
        rw [if_pos ⟨c, c2⟩, tailS, tailS_app, e8, e7]
        simp only [app_assoc]
      · refine evn c2 ?_
        refine fin _ ?_
        unfold grpS grpW
        rw [if_neg (fun h => c2 h.2), List.append_nil, tailS, e8]
        simp only [app_assoc]
    · refine evn (by omega) ?_
      refine fin _ ?_
      unfold grpS grpW
      rw [if_neg (fun h => c h.1), List.append_nil, tailS, e8]
      simp only [app_assoc]
theorem rstep_ok : Ev (fun k => regimenref45_Step_s.f k o) (stepL o) := by
  have nv := ok.nv
  have z1 := tellv_100 ok.step
  have z2 := tellv_100 ok.phase
  have z3 := wordS_size o.2.2.2.2.2.1
  have c5 : (⟨#[115, 116, 101, 112, 32]⟩ : ByteArray).size = 5 := rfl
  have c7 : (⟨#[32, 112, 104, 97, 115, 101, 32]⟩ : ByteArray).size = 7 := rfl
  have c1 := sz_one
  unfold regimenref45_Step_s.f
  refine Ev.bind (ref_tell_ok ok.step) ?_
  refine evp (by omega) ?_
  refine evp (by rw [size_app]; omega) ?_
  refine Ev.bind (ref_tell_ok ok.phase) ?_
  refine evp (by rw [size_app, size_app]; omega) ?_
  refine evp (by rw [size_app, size_app, size_app]; omega) ?_
  refine evs (rword_ok _) ?_
  refine evp (by rw [size_app, size_app, size_app, size_app]; omega) ?_
  have e : (⟨#[115, 116, 101, 112, 32]⟩ : ByteArray) ++ tellv o.1 ++ (⟨#[32, 112, 104, 97, 115, 101, 32]⟩ : ByteArray) ++ tellv o.2.1 ++ (⟨#[32]⟩ : ByteArray) ++ wordS o.2.2.2.2.2.1 = headS o := by
    have e5 : (⟨#[115, 116, 101, 112, 32]⟩ : ByteArray) = (⟨#[115, 116, 101, 112]⟩ : ByteArray) ++ (⟨#[32]⟩ : ByteArray) := rfl
    have e7 : (⟨#[32, 112, 104, 97, 115, 101, 32]⟩ : ByteArray) = (⟨#[32]⟩ : ByteArray) ++ (⟨#[112, 104, 97, 115, 101]⟩ : ByteArray) ++ (⟨#[32]⟩ : ByteArray) := rfl
    unfold headS
    rw [e5, e7]
    simp only [tailS, app_assoc, app_nil]
  rw [e]
  exact rstep_l3 ok (o.2.2.1.length / 3) 0 _ (by omega) (by simp only [List.length_cons, List.length_nil]; omega)
end
end Go.Proofs.Ytcgdhpnobgimfaa.Num
end
section
namespace Go.Proofs.Ytcgdhpnobgimfaa.Num
set_option linter.unusedVariables false
set_option linter.unusedSimpArgs false
open Go.RowKit Go.Proofs.Ytcgdhpnobgimfaa.PO Go.Proofs.YtcgdhpnobgimfaaW.PrintWords Go.Proofs.YtcgdhpnobgimfaaW.PrintMore

abbrev KeptT := Int × Int × Unit
abbrev StateT := Int × Int × Int × (Bool × Int × Int × Unit) × ((Bool × Int × Int × Unit) × Int × Int × Unit) × (List KeptT) × (List Int) × (Int × (List Int) × Unit) × Unit
abbrev kepts (s : StateT) : List KeptT := s.2.2.2.2.2.1
abbrev emas (s : StateT) : List Int := s.2.2.2.2.2.2.1
abbrev swc (s : StateT) : Int := s.2.2.2.2.2.2.2.1.1
abbrev sws (s : StateT) : List Int := s.2.2.2.2.2.2.2.1.2.1
def headT (s : StateT) : ByteArray := (⟨#[115, 116, 97, 116, 101]⟩ : ByteArray) ++ tailS [wordS s.2.1, tellv s.1]
noncomputable def keptS (k : KeptT) : ByteArray := (⟨#[107, 101, 112, 116]⟩ : ByteArray) ++ tailS [tellv k.1, decS k.2.1]
noncomputable def emaP (s : StateT) : List ByteArray := if 0 < (emas s).length then [(⟨#[101, 109, 97]⟩ : ByteArray) ++ tailS (decL (emas s))] else []
def meanL (s : StateT) : List Int := tab (fun i => meanv (swc s) ((sws s).getD i 0)) (sws s).length
open Classical in
noncomputable def swaP (s : StateT) : List ByteArray := if smay (swc s) (sws s) ∧ 0 < swc s then [(⟨#[115, 119, 97]⟩ : ByteArray) ++ tailS (tellv (swc s) :: decL (meanL s))] else []
structure StateOk (s : StateT) : Prop where
  step : word' s.1
  kept1 : ∀ k, k ∈ kepts s → word' k.1
  kept2 : ∀ k, k ∈ kepts s → word' k.2.1
  nk : (kepts s).length ≤ 30
  ema : ∀ x, x ∈ emas s → word' x
  ne : (emas s).length ≤ 30
  cnt : word' (swc s)
  sums : ∀ x, x ∈ sws s → word' x
  ns : (sws s).length ≤ 30
noncomputable def stateL (s : StateT) : List ByteArray := [headT s] ++ ((kepts s).drop 0).map keptS ++ emaP s ++ swaP s
section
variable {s : StateT} (ok : StateOk s)
include ok
theorem state_j9 (acc : List ByteArray) (ha : acc.length ≤ 1000) (hm0 : 0 < swc s → ∀ x, x ∈ meanL s → word' x) : Ev (fun k => output_State_s.j9 k acc s) (acc ++ swaP s) := by
  have ns := ok.ns
  refine Ev.step (fun k => by rw [output_State_s.j9]) ?_
  by_cases m : smay (swc s) (sws s)
  · have e := swa_mean_ok (swc s) (sws s) ok.sums (by omega) m
    refine Ev.bind e ?_
    refine evp rfl ?_
    by_cases c : 0 < swc s
    · have hm := hm0 c
      refine evp c ?_
      refine Ev.bind (tell_ok ok.cnt) ?_
      have dk := decs_ok hm (by unfold meanL; rw [tab_length]; omega)
      refine Ev.bind dk ?_
      have ml : (meanL s).length ≤ 30 := by unfold meanL; rw [tab_length]; omega
      refine evp (by rw [decL_len]; simp only [List.length_cons, List.length_nil]; omega) ?_
      have lj := line_join (b := (⟨#[115, 119, 97]⟩ : ByteArray)) (l := tellv (swc s) :: decL (meanL s)) (by decide) (by rw [List.length_cons, decL_len]; omega) (by
        intro b h
        rcases List.mem_cons.1 h with rfl | h
        · exact tellv_100 ok.cnt
        · exact decL_size hm b h)
      refine evs lj ?_
      refine evp (by simp only [List.length_cons, List.length_nil]; omega) ?_
      refine Ev.step (fun k => by rw [output_State_s.j12]) ?_
      unfold swaP
      rw [if_pos ⟨m, c⟩]
      exact Ev.now _
    · refine evn c ?_
      refine Ev.step (fun k => by rw [output_State_s.j12]) ?_
      unfold swaP
      rw [if_neg (fun h => c h.2), List.append_nil]
      exact Ev.now _
  · refine Ev.bind (swa_mean_no (swc s) (sws s) m) ?_
    refine evn (by decide) ?_
    refine Ev.step (fun k => by rw [output_State_s.j12]) ?_
    unfold swaP
    rw [if_neg (fun h => m h.1), List.append_nil]
    exact Ev.now _
end
end Go.Proofs.Ytcgdhpnobgimfaa.Num
end
section
namespace Go.Proofs.Ytcgdhpnobgimfaa.Num
set_option linter.unusedVariables false
set_option linter.unusedSimpArgs false
open Go.RowKit Go.Proofs.Ytcgdhpnobgimfaa.PO Go.Proofs.YtcgdhpnobgimfaaW.PrintWords Go.Proofs.YtcgdhpnobgimfaaW.PrintMore

section
variable {s : StateT} (ok : StateOk s)
include ok
theorem mean_word (h0 : 0 < swc s) : ∀ x, x ∈ meanL s → word' x := by
  intro x hx
  unfold meanL tab at hx
  obtain ⟨i, _, rfl⟩ := List.mem_map.1 hx
  have m := mean_rnd (c := swc s) (getD_word' ok.sums i) h0
  unfold meanv sgn word'
  repeat' split
  all_goals (dsimp only; omega)
theorem state_l3 (hj : ∀ acc : List ByteArray, acc.length ≤ 1000 → Ev (fun k => output_State_s.j9 k acc s) (acc ++ swaP s)) (d : Nat) : ∀ (i : Nat) (acc : List ByteArray), i + d = (kepts s).length → acc.length + d ≤ 900 →
    Ev (fun k => output_State_s.l3 k acc (kepts s) ((kepts s).length : Int) (i : Int) s) (acc ++ ((kepts s).drop i).map keptS ++ emaP s ++ swaP s) := by
  have nk := ok.nk
  have ne := ok.ne
  have ne' : s.2.2.2.2.2.2.1.length ≤ 30 := ne
  induction d with
  | zero =>
    intro i acc h ha
    refine Ev.step (fun k => by rw [output_State_s.l3]) ?_
    refine evn (by omega) ?_
    rw [List.drop_eq_nil_of_le (by omega), List.map_nil, List.append_nil]
    by_cases c : 0 < (emas s).length
    · refine evp (Int.natCast_pos.2 c) ?_
      refine Ev.bind (decs_ok ok.ema (by omega)) ?_
      refine evp (by rw [decL_len]; simp only [List.length_cons, List.length_nil]; omega) ?_
      refine evs (line_join (b := (⟨#[101, 109, 97]⟩ : ByteArray)) (l := decL (emas s)) (by decide) (by rw [decL_len]; omega) (decL_size ok.ema)) ?_
      refine evp (by simp only [List.length_cons, List.length_nil]; omega) ?_
      unfold emaP
      rw [if_pos c]
      exact hj _ (by simp only [List.length_append, List.length_cons, List.length_nil]; omega)
    · refine evn (fun h => c (Int.natCast_pos.1 h)) ?_
      unfold emaP
      rw [if_neg c, List.append_nil]
      exact hj _ (by omega)
  | succ d ih =>
    intro i acc h ha
    have k1 := ok.kept1 _ (mem_getD (0, 0, ()) (i := i) (by omega : i < (kepts s).length))
    have k2 := ok.kept2 _ (mem_getD (0, 0, ()) (i := i) (by omega : i < (kepts s).length))
    refine Ev.step (fun k => by rw [output_State_s.l3]) ?_
    refine evp (by omega) ?_
    refine evp (by omega) ?_
    refine evp (by omega) ?_
    refine Ev.bind (tell_ok k1) ?_
    refine Ev.bind (dput_ok k2) ?_
    have hb : ∀ b, b ∈ [tellv ((kepts s).getD i (0, 0, ())).1, decS ((kepts s).getD i (0, 0, ())).2.1] → b.size ≤ 100 := by
      intro b h
      simp only [List.mem_cons, List.not_mem_nil, or_false] at h
      rcases h with rfl | rfl
      · exact tellv_100 k1
      · exact decS_size k2
    refine evs (line_join (b := (⟨#[107, 101, 112, 116]⟩ : ByteArray)) (by decide) (by simp only [List.length_cons, List.length_nil]; omega) hb) ?_
    refine evp (by simp only [List.length_cons, List.length_nil]; omega) ?_
    rw [w64_succ (by omega)]
    have := ih (i + 1) (acc ++ [keptS ((kepts s).getD i (0, 0, ()))]) (by omega) (by simp only [List.length_append, List.length_cons, List.length_nil]; omega)
    rw [drop_cons (0, 0, ()) (by omega : i < (kepts s).length), List.map_cons]
    simp only [List.append_assoc, List.cons_append, List.nil_append] at this ⊢
    exact this
theorem state_ok : Ev (fun k => output_State_s.f k s) (stateL s) := by
  have nk := ok.nk
  unfold output_State_s.f
  refine evs (oword_ok _) ?_
  refine Ev.bind (tell_ok ok.step) ?_
  have hb : ∀ b, b ∈ [wordS s.2.1, tellv s.1] → b.size ≤ 100 := by
    intro b h
    simp only [List.mem_cons, List.not_mem_nil, or_false] at h
    rcases h with rfl | rfl
    · exact Nat.le_trans (wordS_size _) (by decide)
    · exact tellv_100 ok.step
  refine evs (line_join (by decide) (by simp only [List.length_cons, List.length_nil]; omega) hb) ?_
  exact state_l3 ok (fun acc h => state_j9 ok acc h (mean_word ok)) (kepts s).length 0 _ (by omega) (by simp only [List.length_cons, List.length_nil]; omega)
end
end Go.Proofs.Ytcgdhpnobgimfaa.Num
end
section
namespace Go.Proofs.Ytcgdhpnobgimfaa.Num
set_option linter.unusedVariables false
set_option linter.unusedSimpArgs false
open Go.RowKit Go.Proofs.Ytcgdhpnobgimfaa.PO Go.Proofs.YtcgdhpnobgimfaaW.PrintWords Go.Proofs.YtcgdhpnobgimfaaW.PrintMore

section
variable {s : StateT} (ok : StateOk s)
include ok
theorem rstate_j8 (acc : List ByteArray) (ha : acc.length ≤ 1000) : Ev (fun k => regimenref45_State_s.j8 k acc s) (acc ++ swaP s) := by
  have ns := ok.ns
  refine Ev.step (fun k => by rw [regimenref45_State_s.j8]) ?_
  refine evs (ref_smay_ok (swc s) (sws s)) ?_
  have done : ¬ (smay (swc s) (sws s) ∧ 0 < swc s) → Ev (fun k => regimenref45_State_s.j10 k acc) (acc ++ swaP s) := by
    intro h
    refine Ev.step (fun k => by rw [regimenref45_State_s.j10]) ?_
    unfold swaP
    rw [if_neg h, List.append_nil]
    exact Ev.now _
  by_cases m : smay (swc s) (sws s)
  · refine evp (by simpa using m) ?_
    by_cases c : 0 < swc s
    · have hm := mean_word ok c
      have ml : (meanL s).length ≤ 30 := by unfold meanL; rw [tab_length]; omega
      have z := tailS_size (decL_size hm)
      rw [decL_len] at z
      have zt := tellv_100 ok.cnt
      have zt' : (tellv s.2.2.2.2.2.2.2.1.1).size ≤ 100 := zt
      have c4 : (⟨#[115, 119, 97, 32]⟩ : ByteArray).size = 4 := rfl
      refine evp c ?_
      refine Ev.bind (ref_tell_ok ok.cnt) ?_
      refine evp (by omega) ?_
      have me : Ev (fun k => regimenref34_Mean.f k (swc s) (sws s)) (meanL s) := by
        unfold regimenref34_Mean.f
        exact ref_mean_loop (swc s) (sws s) ok.sums c m.2.1 (by omega) (sws s).length 0 (by omega)
      refine Ev.bind me ?_
      have dk := tail_ok hm (by omega)
      refine Ev.bind dk ?_
      refine evp (by rw [size_app]; omega) ?_
      refine evp (by simp only [List.length_cons, List.length_nil]; omega) ?_
      refine Ev.step (fun k => by rw [regimenref45_State_s.j10]) ?_
      unfold swaP
      rw [if_pos ⟨m, c⟩]
      have e : (⟨#[115, 119, 97, 32]⟩ : ByteArray) ++ tellv (swc s) ++ tailS (decL (meanL s)) = (⟨#[115, 119, 97]⟩ : ByteArray) ++ tailS (tellv (swc s) :: decL (meanL s)) := by
        rw [show (⟨#[115, 119, 97, 32]⟩ : ByteArray) = (⟨#[115, 119, 97]⟩ : ByteArray) ++ (⟨#[32]⟩ : ByteArray) from rfl, tailS]
        simp only [app_assoc]
      rw [← e]
      exact Ev.now _
    · refine evn c ?_
      exact done fun h => c h.2
  · refine evn (by simpa using m) ?_
    exact done fun h => m h.1
theorem rstate_l3 (d : Nat) : ∀ (i : Nat) (acc : List ByteArray), i + d = (kepts s).length → acc.length + d ≤ 900 →
    Ev (fun k => regimenref45_State_s.l3 k acc (i : Int) s) (acc ++ ((kepts s).drop i).map keptS ++ emaP s ++ swaP s) := by
  have nk := ok.nk
  have nk' : s.2.2.2.2.2.1.length ≤ 30 := nk
  have ne := ok.ne
  have ne' : s.2.2.2.2.2.2.1.length ≤ 30 := ne
  induction d with
  | zero =>
    intro i acc h ha
    have h' : i + 0 = s.2.2.2.2.2.1.length := h
    refine Ev.step (fun k => by rw [regimenref45_State_s.l3]) ?_
    refine evn (by omega) ?_
    rw [List.drop_eq_nil_of_le (by omega), List.map_nil, List.append_nil]
    by_cases c : 0 < (emas s).length
    · refine evp (Int.natCast_pos.2 c) ?_
      have z := tailS_size (decL_size ok.ema)
      rw [decL_len] at z
      have c3 : (⟨#[101, 109, 97]⟩ : ByteArray).size = 3 := rfl
      have dk := tail_ok ok.ema (by omega)
      refine Ev.bind dk ?_
      refine evp (by omega) ?_
      refine evp (by simp only [List.length_cons, List.length_nil]; omega) ?_
      unfold emaP
      rw [if_pos c]
      exact rstate_j8 ok _ (by simp only [List.length_append, List.length_cons, List.length_nil]; omega)
    · refine evn (fun h => c (Int.natCast_pos.1 h)) ?_
      unfold emaP
      rw [if_neg c, List.append_nil]
      exact rstate_j8 ok _ (by omega)
  | succ d ih =>
    intro i acc h ha
    have h' : i + (d + 1) = s.2.2.2.2.2.1.length := h
    have k1 := ok.kept1 _ (mem_getD (0, 0, ()) (i := i) (by omega : i < (kepts s).length))
    have k2 := ok.kept2 _ (mem_getD (0, 0, ()) (i := i) (by omega : i < (kepts s).length))
    have z1 := tellv_100 k1
    have z2 := decS_size k2
    have c5 : (⟨#[107, 101, 112, 116, 32]⟩ : ByteArray).size = 5 := rfl
    have v1 : ∀ x, x ∈ [((kepts s).getD i (0, 0, ())).2.1] → word' x := fun x hx => by rw [List.mem_singleton.1 hx]; exact k2
    have z := tailS_size (decL_size v1)
    rw [decL_len, List.length_singleton] at z
    refine Ev.step (fun k => by rw [regimenref45_State_s.l3]) ?_
    refine evp (by omega) ?_
    refine evp (by omega) ?_
    refine evp (by omega) ?_
    have dt := ref_tell_ok k1
    refine Ev.bind dt ?_
    refine evp (by omega) ?_
    refine evp (by omega) ?_
    refine evp (by omega) ?_
    have dk := tail_ok v1 (by rw [List.length_singleton]; omega)
    refine Ev.bind dk ?_
    refine evp (by rw [size_app]; omega) ?_
    refine evp (by simp only [List.length_cons, List.length_nil]; omega) ?_
    rw [w64_succ (by omega)]
    have := ih (i + 1) (acc ++ [keptS ((kepts s).getD i (0, 0, ()))]) (by omega) (by simp only [List.length_append, List.length_cons, List.length_nil]; omega)
    rw [drop_cons (0, 0, ()) (by omega : i < (kepts s).length), List.map_cons]
    simp only [List.append_assoc, List.cons_append, List.nil_append] at this ⊢
    exact this
theorem rstate_ok : Ev (fun k => regimenref45_State_s.f k s) (stateL s) := by
  have nk := ok.nk
  have z1 := tellv_100 ok.step
  have z3 := wordS_size s.2.1
  have c6 : (⟨#[115, 116, 97, 116, 101, 32]⟩ : ByteArray).size = 6 := rfl
  have c1 := sz_one
  unfold regimenref45_State_s.f
  refine evs (rword_ok _) ?_
  refine evp (by omega) ?_
  refine evp (by rw [size_app]; omega) ?_
  refine Ev.bind (ref_tell_ok ok.step) ?_
  refine evp (by rw [size_app, size_app]; omega) ?_
  have e : (⟨#[115, 116, 97, 116, 101, 32]⟩ : ByteArray) ++ wordS s.2.1 ++ (⟨#[32]⟩ : ByteArray) ++ tellv s.1 = headT s := by
    unfold headT
    rw [show (⟨#[115, 116, 97, 116, 101, 32]⟩ : ByteArray) = (⟨#[115, 116, 97, 116, 101]⟩ : ByteArray) ++ (⟨#[32]⟩ : ByteArray) from rfl]
    simp only [tailS, app_assoc, app_nil]
  rw [e]
  exact rstate_l3 ok (kepts s).length 0 _ (by omega) (by simp only [List.length_cons, List.length_nil]; omega)
end
end Go.Proofs.Ytcgdhpnobgimfaa.Num
end
section
namespace Go.Proofs.Ytcgdhpnobgimfaa.Num
set_option linter.unusedVariables false
set_option linter.unusedSimpArgs false
open Go.RowKit Go.Proofs.Ytcgdhpnobgimfaa.PO Go.Proofs.YtcgdhpnobgimfaaW.PrintWords Go.Proofs.YtcgdhpnobgimfaaW.PrintMore Go.Sym

theorem awake_ok : Ev (fun k => regimenlaw45_awake_s.f k) true := Ev.of (fun k => regimenlaw45_awake_s.mono k) (k := 80) (by decide +kernel)
def smallO (o : OutT) : Bool := decide (o.2.2.1.length ≤ 60) && (decide (o.2.2.2.1.length ≤ 60) && decide (o.2.2.2.2.1.length ≤ 60))
theorem le_iff60 (n : Nat) : ((n : Int) ≤ 60) ↔ n ≤ 60 := by omega
theorem le_iff30 (n : Nat) : ((n : Int) ≤ 30) ↔ n ≤ 30 := by omega
theorem small_ok (o : OutT) : Ev (fun k => regimenlaw45_small_s.f k o) (smallO o) := by
  unfold regimenlaw45_small_s.f smallO
  simp only [le_iff60, Bool.false_xor]
  by_cases a : o.2.2.1.length ≤ 60
  · refine evp a ?_
    rw [decide_eq_true a, Bool.true_and]
    by_cases b : o.2.2.2.1.length ≤ 60
    · refine evp b ?_
      rw [decide_eq_true b, Bool.true_and]
      exact Ev.now _
    · refine evn b ?_
      rw [decide_eq_false b, Bool.false_and]
      exact Ev.now _
  · refine evn a ?_
    rw [decide_eq_false a, Bool.false_and]
    exact Ev.now _
def lightS (s : StateT) : Bool := decide ((kepts s).length ≤ 30) && (decide ((emas s).length ≤ 30) && decide ((sws s).length ≤ 30))
theorem light_ok (s : StateT) : Ev (fun k => regimenlaw37_Light_s.f k s) (lightS s) := by
  unfold regimenlaw37_Light_s.f lightS
  simp only [le_iff30, Bool.false_xor]
  by_cases a : (kepts s).length ≤ 30
  · refine evp a ?_
    rw [decide_eq_true a, Bool.true_and]
    by_cases b : (emas s).length ≤ 30
    · refine evp b ?_
      rw [decide_eq_true b, Bool.true_and]
      exact Ev.now _
    · refine evn b ?_
      rw [decide_eq_false b, Bool.false_and]
      exact Ev.now _
  · refine evn a ?_
    rw [decide_eq_false a, Bool.false_and]
    exact Ev.now _
abbrev outTy : Ty := .cons (.int .i64) (.cons (.int .i64) (.cons (.sl (.int .i64)) (.cons (.sl .bool) (.cons (.sl (.cons (.int .i64) (.cons (.int .i64) (.cons (.int .i64) .nil)))) (.cons (.int .i64) .nil)))))
abbrev stTy : Ty := .cons (.int .i64) (.cons (.int .i64) (.cons (.int .i64) (.cons (.cons .bool (.cons (.int .i64) (.cons (.int .i64) .nil))) (.cons (.cons (.cons .bool (.cons (.int .i64) (.cons (.int .i64) .nil))) (.cons (.int .i64) (.cons (.int .i64) .nil))) (.cons (.sl (.cons (.int .i64) (.cons (.int .i64) .nil))) (.cons (.sl (.int .i64)) (.cons (.cons (.int .i64) (.cons (.sl (.int .i64)) .nil)) .nil)))))))
theorem out_wf {o : OutT} (w : Wf outTy o) (h : smallO o = true) : OutOk o := by
  unfold smallO at h
  simp only [Bool.and_eq_true, decide_eq_true_eq] at h
  obtain ⟨h1, h2, h3, h4, h5, h6, _⟩ := w
  exact ⟨i64_wf h1, i64_wf h2, fun x hx => i64_wf (h3.2 x hx), h.1, h.2.1, h.2.2, fun e he => i64_wf (h5.2 e he).2.2.1⟩
theorem st_wf {s : StateT} (w : Wf stTy s) (h : lightS s = true) : StateOk s := by
  unfold lightS at h
  simp only [Bool.and_eq_true, decide_eq_true_eq] at h
  obtain ⟨h1, h2, h3, h4, h5, h6, h7, h8, _⟩ := w
  exact ⟨i64_wf h1, fun k hk => i64_wf (h6.2 k hk).1, fun k hk => i64_wf (h6.2 k hk).2.1, h.1, fun x hx => i64_wf (h7.2 x hx), h.2.1, i64_wf h8.1, fun x hx => i64_wf (h8.2.1.2 x hx), h.2.2⟩
theorem stepL_len {o : OutT} (h : OutOk o) : (stepL o).length < 1000000 := by
  have := h.nv
  have := h.ne
  unfold stepL
  simp only [List.length_append, List.length_map, List.length_range', List.length_cons, List.length_nil, List.length_drop]
  omega
theorem stateL_len {s : StateT} (h : StateOk s) : (stateL s).length < 1000000 := by
  have := h.nk
  unfold stateL emaP swaP
  simp only [List.length_append, List.length_map, List.length_cons, List.length_nil, List.length_drop]
  split <;> split <;> simp only [List.length_cons, List.length_nil] <;> omega
theorem lines_ok (o : OutT) (s : StateT) (w0 : Wf outTy o) (w1 : Wf stTy s) : Ev (fun k => regimenlaw45_OutputLines_s.f k o s) true := by
  unfold regimenlaw45_OutputLines_s.f
  refine Ev.bind (small_ok o) ?_
  rcases Bool.eq_false_or_eq_true (smallO o) with a | a
  rotate_left
  · refine evp (by rw [a]; rfl) ?_
    exact Ev.bind awake_ok (Ev.now _)
  refine evn (by rw [a]; decide) ?_
  refine Ev.bind (light_ok s) ?_
  rcases Bool.eq_false_or_eq_true (lightS s) with b | b
  rotate_left
  · refine evp (by rw [b]; rfl) ?_
    exact Ev.bind awake_ok (Ev.now _)
  refine evn (by rw [b]; decide) ?_
  have oo := out_wf w0 a
  have so := st_wf w1 b
  refine Ev.bind (step_ok oo) ?_
  refine Ev.bind (rstep_ok oo) ?_
  refine Ev.bind (texts_ok _ (stepL_len oo)) ?_
  refine evp rfl ?_
  refine Ev.bind (state_ok so) ?_
  refine Ev.bind (rstate_ok so) ?_
  refine Ev.bind (texts_ok _ (stateL_len so)) ?_
  refine evp rfl ?_
  refine evs (oword_ok _) ?_
  refine evs (rword_ok _) ?_
  refine evp rfl ?_
  exact Ev.bind awake_ok (Ev.now _)
end Go.Proofs.Ytcgdhpnobgimfaa.Num
namespace Go.Proofs.Ytcgdhpnobgimfaa
open Go.Sym Go.Proofs.Ytcgdhpnobgimfaa.Num Go.Proofs.Ytcgdhpnobgimfaa.PO
theorem Pure.OutputLines (y0 : El outTy) (w0 : Wf outTy y0) (y1 : El stTy) (w1 : Wf stTy y1) : ∃ k, regimenlaw45_OutputLines_s.c.fn k (y0, y1, ()) = some true := by
  obtain ⟨K, h⟩ := lines_ok y0 y1 w0 w1
  exact ⟨K, h K (Nat.le_refl _)⟩
end Go.Proofs.Ytcgdhpnobgimfaa
end
