/- Numbers as decimals (layer 5): a number's own decimal, the reference's, by value. -/
import Derived.Test.YtemmnjnihngjgaaPDx11
import Derived.Test.YtemmnjnihngjgaaDDecQ
namespace Go.Proofs.Ytemmnjnihngjgaa.Num
set_option linter.unusedVariables false
set_option linter.unusedSimpArgs false
open Go.RowKit Go.Proofs.Ytemmnjnihngjgaa.PD Go.Proofs.YtemmnjnihngjgaaW.PrintWords Go.Proofs.YtemmnjnihngjgaaW.PrintMore

theorem low_digit {r : List Int} (hr : dok r) {v : Int} (h : dv r = v) (h0 : 0 ≤ v) (h1 : v < 65536) (hl : 0 < r.length) : r.getD 0 0 = v := by
  cases r with
  | nil => simp at hl
  | cons x t =>
    have hx := hr x List.mem_cons_self
    have ht := dv_nonneg (dok_tail hr)
    simp only [dv] at h
    show x = v
    omega
theorem text5_loop (m : Nat) : ∀ (u : Int) (a : List Int) (acc : List Int), dok a → dv a = u → 0 ≤ u → u < 10 ^ (m + 1) → a.length + m ≤ 300 → acc.length + m ≤ 100 →
    Ev (fun k => regimenref05_Text.j1 k a (⟨#[48, 49, 50, 51, 52, 53, 54, 55, 56, 57]⟩ : ByteArray) (strOfNums acc) true) (strOfNums (dig (m + 1) u acc)) := by
  have step : ∀ (u : Int) (a : List Int) (acc : List Int) {R : ByteArray}, dok a → dv a = u → 0 ≤ u → a.length ≤ 300 → acc.length ≤ 100 →
      (∀ q : List Int, dok q → dv q = u / 10 → q.length ≤ a.length + 1 → Ev (fun k => regimenref05_Text.l0 k q (⟨#[48, 49, 50, 51, 52, 53, 54, 55, 56, 57]⟩ : ByteArray) (strOfNums ((48 + u % 10) :: acc))) R) →
      Ev (fun k => regimenref05_Text.j1 k a (⟨#[48, 49, 50, 51, 52, 53, 54, 55, 56, 57]⟩ : ByteArray) (strOfNums acc) true) R := by
    intro u a acc R da va h0 la lacc H
    have hten : dv [10] = 10 := by simp [dv]
    obtain ⟨q, hq, dq, vq, lq⟩ := quotient_ok a [10] da (dok_one (by omega)) (by simp) (by omega) (by omega)
    rw [va, hten] at vq
    obtain ⟨p, hp, dp, vp, lp⟩ := times_ok q [10] dq (dok_one (by omega)) (by omega) (by simp)
    rw [vq, hten] at vp
    have da0 : dok (a ++ [0]) := dok_snoc da (by omega)
    have va0 : dv (a ++ [0]) = u := by rw [dv_snoc, va]; simp
    obtain ⟨r, hr, dr, vr, lr⟩ := less_ok (a ++ [0]) p da0 dp (by simp; omega) (by rw [va0, vp]; omega)
    have lr : r.length = a.length + 1 := by rw [lr]; simp
    have v : r.getD 0 0 = u % 10 := low_digit dr (by rw [vr, va0, vp]; omega) (by omega) (by omega) (by omega)
    have hn := digit_str (u % 10).toNat (by omega)
    have e : (⟨#[48, 49, 50, 51, 52, 53, 54, 55, 56, 57]⟩ : ByteArray).extract (u % 10).toNat (u % 10 + 1).toNat = strOfNums [48 + u % 10] := by
      rw [show (u % 10 + 1).toNat = (u % 10).toNat + 1 from by omega, hn, show ((u % 10).toNat : Int) = u % 10 from by omega]
    refine Ev.step (fun k => by rw [regimenref05_Text.j1]) ?_
    refine evp rfl ?_
    refine Ev.bind hq ?_
    refine evs rfl ?_
    refine evp (by simp; omega) ?_
    refine evs rfl ?_
    refine evp (by simp; omega) ?_
    refine Ev.bind hp ?_
    rw [List.nil_append]
    refine Ev.bind hr ?_
    refine evp (by omega) ?_
    rw [show rd r 0 = r.getD 0 0 from rd_nat r 0, v, u64_id (x := u % 10 + 1) (by omega) (by omega), e]
    refine evp (by omega) ?_
    refine evp (by omega) ?_
    refine evp (by show u % 10 + 1 ≤ 10; omega) ?_
    refine evp (by rw [strOfNums_size, strOfNums_size]; simp only [List.length_cons, List.length_nil]; omega) ?_
    rw [str_app]
    exact H q dq vq lq
  have stop : ∀ (q : List Int) (l : List Int) {R : ByteArray}, dok q → q.length ≤ 1000 → 0 < l.length → (dv q = 0 → R = strOfNums l) → (0 < dv q → Ev (fun k => regimenref05_Text.j1 k q (⟨#[48, 49, 50, 51, 52, 53, 54, 55, 56, 57]⟩ : ByteArray) (strOfNums l) true) R) →
      Ev (fun k => regimenref05_Text.l0 k q (⟨#[48, 49, 50, 51, 52, 53, 54, 55, 56, 57]⟩ : ByteArray) (strOfNums l)) R := by
    intro q l R dq lq hl h0 h1
    have nn := dv_nonneg dq
    have hc := cmp_ok q [] dq dok_nil (by omega) (by simp)
    rw [show dv [] = 0 from rfl] at hc
    refine Ev.step (fun k => by rw [regimenref05_Text.l0]) ?_
    refine evn (by rw [strOfNums_size]; omega) ?_
    refine Ev.bind hc ?_
    by_cases c : dv q = 0
    · rw [if_neg (by omega), if_neg (by omega), h0 c]
      refine Ev.step (fun k => by rw [regimenref05_Text.j1]) ?_
      exact evn (by decide) (Ev.now _)
    · rw [if_neg (by omega), if_pos (by omega)]
      exact h1 (by omega)
  induction m with
  | zero =>
    intro u a acc da va h0 h1 la lacc
    have h1 : u < 10 := by simpa using h1
    refine step u a acc da va h0 (by omega) (by omega) fun q dq vq lq => ?_
    refine stop q _ dq (by omega) (by simp) (fun _ => ?_) (fun h => by omega)
    rw [show dig (0 + 1) u acc = (48 + u % 10) :: acc from if_pos (by omega)]
  | succ m ih =>
    intro u a acc da va h0 h1 la lacc
    rw [Int.pow_succ] at h1
    refine step u a acc da va h0 (by omega) (by omega) fun q dq vq lq => ?_
    refine stop q _ dq (by omega) (by simp) (fun h => ?_) (fun h => ?_)
    · rw [show dig (m + 1 + 1) u acc = (48 + u % 10) :: acc from if_pos (by omega)]
    · rw [show dig (m + 1 + 1) u acc = dig (m + 1) (u / 10) ((48 + u % 10) :: acc) from if_neg (by omega)]
      exact ih (u / 10) q _ dq vq (by omega) (by omega) (by omega) (by simp only [List.length_cons]; omega)
theorem text5_ok {a : List Int} {u : Int} (da : dok a) (va : dv a = u) (h0 : 0 ≤ u) (h1 : u < 100000000000000000000) (la : a.length ≤ 200) : Ev (fun k => regimenref05_Text.f k a) (strOfNums (tell u)) := by
  have t := text5_loop 19 u a [] da va h0 (by have : (10 : Int) ^ (19 + 1) = 100000000000000000000 := (by decide); omega) (by omega) (by simp)
  unfold regimenref05_Text.f
  refine Ev.step (fun k => by rw [regimenref05_Text.l0]) ?_
  refine evp (by decide) ?_
  exact t
/-! ### The reference's decimal -/
theorem put_l1 (sign : List Int) (hs : sign.length ≤ 1) {T : List Int} {n : Nat} (hn : n ≤ 10) (e : Nat) : ∀ i : Nat, i + e = n + 1 - T.length → i + T.length ≤ 100 → 0 < T.length →
    Ev (fun k => regimenref05_Put.l1 k (strOfNums sign) (n : Int) (strOfNums (List.replicate i 48 ++ T)))
      (if n = 0 then strOfNums (sign ++ (List.replicate (n + 1 - T.length) 48 ++ T)) else strOfNums (sign ++ ((List.replicate (n + 1 - T.length) 48 ++ T).take ((List.replicate (n + 1 - T.length) 48 ++ T).length - n) ++ (46 :: (List.replicate (n + 1 - T.length) 48 ++ T).drop ((List.replicate (n + 1 - T.length) 48 ++ T).length - n))))) := by
  induction e with
  | zero =>
    intro i h hl hT
    obtain rfl : i = n + 1 - T.length := by omega
    obtain ⟨Z, hZ⟩ : ∃ Z, Z = List.replicate (n + 1 - T.length) 48 ++ T := ⟨_, rfl⟩
    have lZ : Z.length = (n + 1 - T.length) + T.length := by rw [hZ]; simp
    rw [← hZ]
    refine Ev.step (fun k => by rw [regimenref05_Put.l1]) ?_
    rw [strOfNums_size, strOfNums_size]
    refine evn (by omega) ?_
    by_cases c : n = 0
    · rw [if_pos c]
      refine evp (by omega) ?_
      refine evp (by omega) ?_
      rw [str_app]
      exact Ev.now _
    · rw [if_neg c]
      refine evn (by omega) ?_
      rw [w64_id (x := (Z.length : Int) - (n : Int)) (by omega) (by omega)]
      have eT : ((Z.length : Int) - (n : Int)).toNat = Z.length - n := by omega
      rw [eT]
      have e1 : (strOfNums Z).extract 0 (Z.length - n) = strOfNums (Z.take (Z.length - n)) := by
        apply ByteArray.ext
        rw [ByteArray.data_extract]
        apply Array.toList_inj.1
        rw [Array.toList_extract, List.extract_eq_take_drop]
        simp [strOfNums]
      have e2 : (strOfNums Z).extract (Z.length - n) Z.length = strOfNums (Z.drop (Z.length - n)) := by
        apply ByteArray.ext
        rw [ByteArray.data_extract]
        apply Array.toList_inj.1
        rw [Array.toList_extract, List.extract_eq_take_drop]
        show List.take _ (List.drop _ (Z.map fun n => UInt8.ofNat n.toNat)) = (Z.drop _).map _
        rw [List.map_drop, List.take_of_length_le (by rw [List.length_drop, List.length_map]; exact Nat.le_refl _)]
      rw [e1, e2, show (⟨#[46]⟩ : ByteArray) = strOfNums [46] from by decide +kernel, str_app, str_app, str_app, strOfNums_size, strOfNums_size, strOfNums_size, strOfNums_size]
      refine evp (by omega) ?_
      refine evp (by omega) ?_
      refine evp (by rw [List.length_take]; omega) ?_
      refine evp (by rw [List.length_append, List.length_take]; omega) ?_
      refine evp (by rw [List.length_append, List.length_append, List.length_take, List.length_drop]; simp; omega) ?_
      rw [show sign ++ (Z.take (Z.length - n) ++ (46 :: Z.drop (Z.length - n))) = ((sign ++ Z.take (Z.length - n)) ++ [46]) ++ Z.drop (Z.length - n) from by simp]
      exact Ev.now _
  | succ e ih =>
    intro i h hl hT
    have nx := ih (i + 1) (by omega) (by omega) hT
    refine Ev.step (fun k => by rw [regimenref05_Put.l1]) ?_
    refine evp (by rw [strOfNums_size, List.length_append, List.length_replicate]; omega) ?_
    refine evp (by rw [strOfNums_size, List.length_append, List.length_replicate]; omega) ?_
    rw [show (⟨#[48]⟩ : ByteArray) = strOfNums [48] from by decide +kernel, str_app]
    rw [List.replicate_succ] at nx
    exact nx
theorem back_iff {W f : Int} (hf0 : 0 ≤ f) (hf1 : f < 4294967296) (n : Nat) : rnd ((W * 4294967296 + f) * 10 ^ n) 4294967296 = (if n = 0 then rnd (W * 4294967296 + f) 4294967296 else W * 10 ^ n + nd f n) ∧ (rnd (rnd ((W * 4294967296 + f) * 10 ^ n) 4294967296 * 4294967296) (10 ^ n) = W * 4294967296 + f ↔ isback f n) := by
  have p := ten_pos n
  by_cases c : n = 0
  · subst c
    rw [if_pos rfl, show (10 : Int) ^ 0 = 1 from rfl, Int.mul_one]
    refine ⟨rfl, ?_⟩
    have e := rnd_exact (rnd (W * 4294967296 + f) 4294967296 * 4294967296) (d := 1) (by omega)
    rw [Int.mul_one] at e
    rw [e, isback_zero hf0 hf1]
    constructor
    · intro h
      omega
    · intro h
      rw [h, Int.add_zero, rnd_exact W (by omega)]
  · rw [if_neg c]
    have ev := ten_even (n := n) (by omega)
    have e1 : rnd ((W * 4294967296 + f) * 10 ^ n) 4294967296 = W * 10 ^ n + nd f n := by
      have : (W * 4294967296 + f) * 10 ^ n = (W * 10 ^ n) * 4294967296 + f * 10 ^ n := by
        rw [Int.add_mul, Int.mul_assoc, Int.mul_assoc, Int.mul_comm (10 ^ n)]
      rw [this]
      exact rnd_shift _ (by omega) (mul_even ev)
    refine ⟨e1, ?_⟩
    rw [e1]
    have e2 : (W * 10 ^ n + nd f n) * 4294967296 = (W * 4294967296) * 10 ^ n + nd f n * 4294967296 := by
      rw [Int.add_mul, Int.mul_assoc, Int.mul_assoc, Int.mul_comm (10 ^ n)]
    rw [e2, rnd_shift _ p (by omega)]
    unfold isback
    omega
theorem ref_put_l0 {x : Int} (hx : -9223372036854775808 ≤ x ∧ x < 9223372036854775808) {n : Nat} (hf : fewest (iabs x % 4294967296) n) {a : List Int} (da : dok a) (va : dv a = iabs x) (la : a.length ≤ 4) (e : Nat) : ∀ i : Nat, i + e = n →
    Ev (fun k => regimenref05_Put.l0 k a (strOfNums (if x < 0 then [45] else [])) (i : Int)) (strOfNums (putl x n)) := by
  have u0 := iabs_nonneg x
  have u1 := iabs_lt hx
  have h10 := hf.1
  have hu : iabs x / 4294967296 * 4294967296 + iabs x % 4294967296 = iabs x := by omega
  have one : ∀ i : Nat, i ≤ 10 → ∀ {R : ByteArray}, (isback (iabs x % 4294967296) i → ∀ D : List Int, dok D → dv D = rnd (iabs x * 10 ^ i) 4294967296 → D.length ≤ 60 → Ev (fun k => (regimenref05_Text.f k D).bind fun t => regimenref05_Put.l1 k (strOfNums (if x < 0 then [45] else [])) (i : Int) t) R) → (¬ isback (iabs x % 4294967296) i → Ev (fun k => regimenref05_Put.l0 k a (strOfNums (if x < 0 then [45] else [])) ((i + 1 : Nat) : Int)) R) → Ev (fun k => regimenref05_Put.l0 k a (strOfNums (if x < 0 then [45] else [])) (i : Int)) R := by
    intro i hi R hb hnb
    have bk := (back_iff (W := iabs x / 4294967296) (f := iabs x % 4294967296) (by omega) (by omega) i).2
    rw [hu] at bk
    obtain ⟨t, ht, dt, vt, lt⟩ := tens_ok i (by omega)
    obtain ⟨p, hp, dp, vp, lp⟩ := times_ok a t da dt (by omega) (by omega)
    obtain ⟨w, hw, dw, vw, lw⟩ := twos_ok 32 (by omega)
    rw [show (2 : Int) ^ (32 : Int).toNat = 4294967296 from by decide] at vw
    have lw : w.length ≤ 33 := lw
    obtain ⟨D, hD, dD, vD, lD⟩ := rounded_t p w dp dw (by omega) (by omega) (by omega)
    rw [vp, va, vt, vw] at vD
    obtain ⟨z, hz, dz, vz, lz⟩ := read_ok5 D i dD (by omega) (by omega)
    rw [vD] at vz
    have hc := cmp_ok z a dz da (by omega) (by omega)
    rw [vz, va] at hc
    refine Ev.step (fun k => by rw [regimenref05_Put.l0]) ?_
    refine evp (by omega) ?_
    refine Ev.bind ht ?_
    refine Ev.bind hp ?_
    refine Ev.bind hw ?_
    refine Ev.bind hD ?_
    refine Ev.bind hz ?_
    refine Ev.bind hc ?_
    by_cases c : isback (iabs x % 4294967296) i
    · have := bk.2 c
      refine evp (by rw [if_neg (by omega), if_neg (by omega)]) ?_
      exact hb c D dD vD (by omega)
    · have : ¬ _ := fun q => c (bk.1 q)
      refine evn (by split; (omega); split <;> omega) ?_
      rw [w64_succ (by omega)]
      exact hnb c
  induction e with
  | zero =>
    intro i h
    obtain rfl : i = n := by omega
    refine one i h10 (fun _ D dD vD lD => ?_) (fun q => absurd hf.2.1 q)
    have bk := (back_iff (W := iabs x / 4294967296) (f := iabs x % 4294967296) (by omega) (by omega) i).1
    rw [hu] at bk
    have hs : (if x < 0 then [(45 : Int)] else []).length ≤ 1 := by split <;> simp
    have hz := fewest_zero (f := iabs x % 4294967296) (by omega) (by omega) hf
    by_cases c : i = 0
    · have f0 := hz.1 c
      have vD2 : dv D = iabs x / 4294967296 := by
        have e := rnd_exact (iabs x / 4294967296) (d := 4294967296) (by omega)
        rw [show iabs x / 4294967296 * 4294967296 = iabs x from by omega] at e
        rw [vD, bk, if_pos c]
        exact e
      refine Ev.bind (text5_ok dD vD2 (by omega) (by omega) (by omega)) ?_
      obtain ⟨l0, l1, hd, hv, hzz⟩ := tell_ex (u := iabs x / 4294967296) (by omega) (by omega)
      have l := put_l1 (if x < 0 then [45] else []) hs (T := tell (iabs x / 4294967296)) (n := i) (by omega) 0 0 (by omega) (by omega) l0
      rw [if_pos c, show i + 1 - (tell (iabs x / 4294967296)).length = 0 from by omega] at l
      unfold putl
      rw [if_pos c, List.append_nil]
      exact l
    · have lt := nd_lt (f := iabs x % 4294967296) (by omega) (by omega) hf.2.1
      have bd := nd_le (f := iabs x % 4294967296) i (by omega) (by omega)
      have vD2 : dv D = iabs x / 4294967296 * 10 ^ i + nd (iabs x % 4294967296) i := by
        rw [vD, bk, if_neg c]
      have hm := ten_mono (m := i) (n := 10) (by omega)
      have e10 : (10 : Int) ^ 10 = 10000000000 := by decide
      have p := ten_pos i
      have hb := mul_bd (x := iabs x / 4294967296) (y := 10 ^ i) (M := 2147483648) (N := 10000000000) (by omega) (by omega) (by omega) (by omega)
      refine Ev.bind (text5_ok dD vD2 (by omega) (by omega) (by omega)) ?_
      obtain ⟨l0, l1, hd, hv, hzz⟩ := tell_ex (u := iabs x / 4294967296 * 10 ^ i + nd (iabs x % 4294967296) i) (by omega) (by omega)
      have sp := split_text (W := iabs x / 4294967296) (d := nd (iabs x % 4294967296) i) (n := i) (by omega) (by omega) (by omega) (by omega) bd.1 lt
      have l := put_l1 (if x < 0 then [45] else []) hs (T := tell (iabs x / 4294967296 * 10 ^ i + nd (iabs x % 4294967296) i)) (n := i) (by omega) (i + 1 - (tell (iabs x / 4294967296 * 10 ^ i + nd (iabs x % 4294967296) i)).length) 0 (by omega) (by omega) l0
      have pl := padn_len i (nd (iabs x % 4294967296) i)
      rw [if_neg c, sp, List.length_append, pl, Nat.add_sub_cancel, List.take_left', List.drop_left'] at l
      · unfold putl
        rw [if_neg c]
        exact l
      · rfl
      · rfl
  | succ e ih =>
    intro i h
    have nx := ih (i + 1) (by omega)
    exact one i (by omega) (fun q => absurd q (hf.2.2 i (by omega))) (fun _ => nx)
theorem ref_put_ok {x : Int} (hx : -9223372036854775808 ≤ x ∧ x < 9223372036854775808) {n : Nat} (hf : fewest (iabs x % 4294967296) n) : Ev (fun k => regimenref05_Put.f k x) (strOfNums (putl x n)) := by
  obtain ⟨a, ha, da, va, la⟩ := ref_size_ok hx
  have l := ref_put_l0 hx hf da va (by omega) n 0 (by omega)
  unfold regimenref05_Put.f
  refine evs ha ?_
  by_cases c : x < 0
  · rw [if_pos c] at l
    refine evp c ?_
    refine Ev.step (fun k => by rw [regimenref05_Put.j0]) ?_
    exact l
  · rw [if_neg c] at l
    refine evn c ?_
    refine Ev.step (fun k => by rw [regimenref05_Put.j0]) ?_
    exact l
end Go.Proofs.Ytemmnjnihngjgaa.Num
