/- Numbers as decimals (layer 5): a number's own decimal, the reference's, by value. Texts that are parted at a byte, by value. Events' lines (layer 36): the program's and the reference's, by value. How far two numbers are apart (layer 7's reference), by value. Lists that are the same, lists of all of a function's values, copies: by value. Averages in which all count alike (layer 34): the program's and the reference's, by value. Words and lines (layer 45), by value. A text's parts, parted by a byte, and told again. A step's lines (layer 45), by value. Lines of a trace are read (layer 57): their words, heads, groups, events. A step's lines (layer 45), by value: the rounds. Lines of a trace are read (layer 57): a head, a group, an event, each told again. Lines of a trace: what the document's answer reads of a line is what is read of it (layer 57). A step that lines begin with (layer 57): what it is, that it may be told, and is told as these lines. All steps that lines begin with (layer 57); and what may be told is let pass. A step's lines (layer 45), by value: the reference's. Which step lines begin with, by the document's answer (layer 57). Inputs as lines (layer 44): which input a line is. Which input a line is, by the document's answer (layer 44); inputs that are the same. Inputs' lines (layer 44), told and read. The theorem of lines of inputs. -/
import Derived.Test.YtcgdhpnobgimfaaDoorMTP4
import Derived.Test.YtcgdhpnobgimfaaDoorMTP6
import Derived.Test.YtcgdhpnobgimfaaDoorMTP5
import Derived.Lib.SplitLaws
section
namespace Go.Proofs.YtcgdhpnobgimfaaDoor.Num
set_option linter.unusedVariables false
set_option linter.unusedSimpArgs false
open Go.RowKit Go.Proofs.YtcgdhpnobgimfaaDoor.PI Go.Proofs.YtcgdhpnobgimfaaDoorW.PrintWords Go.Proofs.YtcgdhpnobgimfaaDoorW.PrintMore

theorem low_digit {r : List Int} (hr : dok r) {v : Int} (h : dv r = v) (h0 : 0 ≤ v) (h1 : v < 65536) (hl : 0 < r.length) : r.getD 0 0 = v := by
  cases r with
  | nil => simp at hl
  | cons x t =>
    have hx := hr x List.mem_cons_self
    have ht := dv_nonneg (dok_tail hr)
    simp only [dv] at h
    show x = v
    omega
theorem text5_loop (m : Nat) : ∀ (u : Int) (a : List Int) (acc : List Int), dok a → dv a = u → 0 ≤ u → u < 10 ^ (m + 1) → a.length + m ≤ 300 → acc.length + m ≤ 100 →
    Ev (fun k => regimenref05_Text.j1 k a (⟨#[48, 49, 50, 51, 52, 53, 54, 55, 56, 57]⟩ : ByteArray) (strOfNums acc) true) (strOfNums (dig (m + 1) u acc)) := by
  have step : ∀ (u : Int) (a : List Int) (acc : List Int) {R : ByteArray}, dok a → dv a = u → 0 ≤ u → a.length ≤ 300 → acc.length ≤ 100 →
      (∀ q : List Int, dok q → dv q = u / 10 → q.length ≤ a.length + 1 → Ev (fun k => regimenref05_Text.l0 k q (⟨#[48, 49, 50, 51, 52, 53, 54, 55, 56, 57]⟩ : ByteArray) (strOfNums ((48 + u % 10) :: acc))) R) →
      Ev (fun k => regimenref05_Text.j1 k a (⟨#[48, 49, 50, 51, 52, 53, 54, 55, 56, 57]⟩ : ByteArray) (strOfNums acc) true) R := by
    intro u a acc R da va h0 la lacc H
    have hten : dv [10] = 10 := by simp [dv]
    obtain ⟨q, hq, dq, vq, lq⟩ := quotient_ok a [10] da (dok_one (by omega)) (by simp) (by omega) (by omega)
    rw [va, hten] at vq
    obtain ⟨p, hp, dp, vp, lp⟩ := times_ok q [10] dq (dok_one (by omega)) (by omega) (by simp)
    rw [vq, hten] at vp
    have da0 : dok (a ++ [0]) := dok_snoc da (by omega)
    have va0 : dv (a ++ [0]) = u := by rw [dv_snoc, va]; simp
    obtain ⟨r, hr, dr, vr, lr⟩ := less_ok (a ++ [0]) p da0 dp (by simp; omega) (by rw [va0, vp]; omega)
    have lr : r.length = a.length + 1 := by rw [lr]; simp
    have v : r.getD 0 0 = u % 10 := low_digit dr (by rw [vr, va0, vp]; omega) (by omega) (by omega) (by omega)
    have hn := digit_str (u % 10).toNat (by omega)
    have e : (⟨#[48, 49, 50, 51, 52, 53, 54, 55, 56, 57]⟩ : ByteArray).extract (u % 10).toNat (u % 10 + 1).toNat = strOfNums [48 + u % 10] := by
      rw [show (u % 10 + 1).toNat = (u % 10).toNat + 1 from by omega, hn, show ((u % 10).toNat : Int) = u % 10 from by omega]
    refine Ev.step (fun k => by rw [regimenref05_Text.j1]) ?_
    refine evp rfl ?_
    refine Ev.bind hq ?_
    refine evs rfl ?_
    refine evp (by simp; omega) ?_
    refine evs rfl ?_
    refine evp (by simp; omega) ?_
    refine Ev.bind hp ?_
    rw [List.nil_append]
    refine Ev.bind hr ?_
    refine evp (by omega) ?_
    rw [show rd r 0 = r.getD 0 0 from rd_nat r 0, v, u64_id (x := u % 10 + 1) (by omega) (by omega), e]
    refine evp (by omega) ?_
    refine evp (by omega) ?_
    refine evp (by show u % 10 + 1 ≤ 10; omega) ?_
    refine evp (by rw [strOfNums_size, strOfNums_size]; simp only [List.length_cons, List.length_nil]; omega) ?_
    rw [str_app]
    exact H q dq vq lq
  have stop : ∀ (q : List Int) (l : List Int) {R : ByteArray}, dok q → q.length ≤ 1000 → 0 < l.length → (dv q = 0 → R = strOfNums l) → (0 < dv q → Ev (fun k => regimenref05_Text.j1 k q (⟨#[48, 49, 50, 51, 52, 53, 54, 55, 56, 57]⟩ : ByteArray) (strOfNums l) true) R) →
      Ev (fun k => regimenref05_Text.l0 k q (⟨#[48, 49, 50, 51, 52, 53, 54, 55, 56, 57]⟩ : ByteArray) (strOfNums l)) R := by
    intro q l R dq lq hl h0 h1
    have nn := dv_nonneg dq
    have hc := cmp_ok q [] dq dok_nil (by omega) (by simp)
    rw [show dv [] = 0 from rfl] at hc
    refine Ev.step (fun k => by rw [regimenref05_Text.l0]) ?_
    refine evn (by rw [strOfNums_size]; omega) ?_
    refine Ev.bind hc ?_
    by_cases c : dv q = 0
    · rw [if_neg (by omega), if_neg (by omega), h0 c]
      refine Ev.step (fun k => by rw [regimenref05_Text.j1]) ?_
      exact evn (by decide) (Ev.now _)
    · rw [if_neg (by omega), if_pos (by omega)]
      exact h1 (by omega)
  induction m with
  | zero =>
    intro u a acc da va h0 h1 la lacc
    have h1 : u < 10 := by simpa using h1
    refine step u a acc da va h0 (by omega) (by omega) fun q dq vq lq => ?_
    refine stop q _ dq (by omega) (by simp) (fun _ => ?_) (fun h => by omega)
    rw [show dig (0 + 1) u acc = (48 + u % 10) :: acc from if_pos (by omega)]
  | succ m ih =>
    intro u a acc da va h0 h1 la lacc
    rw [Int.pow_succ] at h1
    refine step u a acc da va h0 (by omega) (by omega) fun q dq vq lq => ?_
    refine stop q _ dq (by omega) (by simp) (fun h => ?_) (fun h => ?_)
    · rw [show dig (m + 1 + 1) u acc = (48 + u % 10) :: acc from if_pos (by omega)]
    · rw [show dig (m + 1 + 1) u acc = dig (m + 1) (u / 10) ((48 + u % 10) :: acc) from if_neg (by omega)]
      exact ih (u / 10) q _ dq vq (by omega) (by omega) (by omega) (by simp only [List.length_cons]; omega)
theorem text5_ok {a : List Int} {u : Int} (da : dok a) (va : dv a = u) (h0 : 0 ≤ u) (h1 : u < 100000000000000000000) (la : a.length ≤ 200) : Ev (fun k => regimenref05_Text.f k a) (strOfNums (tell u)) := by
  have t := text5_loop 19 u a [] da va h0 (by have : (10 : Int) ^ (19 + 1) = 100000000000000000000 := (by decide); omega) (by omega) (by simp)
  unfold regimenref05_Text.f
  refine Ev.step (fun k => by rw [regimenref05_Text.l0]) ?_
  refine evp (by decide) ?_
  exact t
/-! ### The reference's decimal -/
theorem put_l1 (sign : List Int) (hs : sign.length ≤ 1) {T : List Int} {n : Nat} (hn : n ≤ 10) (e : Nat) : ∀ i : Nat, i + e = n + 1 - T.length → i + T.length ≤ 100 → 0 < T.length →
    Ev (fun k => regimenref05_Put.l1 k (strOfNums sign) (n : Int) (strOfNums (List.replicate i 48 ++ T)))
      (if n = 0 then strOfNums (sign ++ (List.replicate (n + 1 - T.length) 48 ++ T)) else strOfNums (sign ++ ((List.replicate (n + 1 - T.length) 48 ++ T).take ((List.replicate (n + 1 - T.length) 48 ++ T).length - n) ++ (46 :: (List.replicate (n + 1 - T.length) 48 ++ T).drop ((List.replicate (n + 1 - T.length) 48 ++ T).length - n))))) := by
  induction e with
  | zero =>
    intro i h hl hT
    obtain rfl : i = n + 1 - T.length := by omega
    obtain ⟨Z, hZ⟩ : ∃ Z, Z = List.replicate (n + 1 - T.length) 48 ++ T := ⟨_, rfl⟩
    have lZ : Z.length = (n + 1 - T.length) + T.length := by rw [hZ]; simp
    rw [← hZ]
    refine Ev.step (fun k => by rw [regimenref05_Put.l1]) ?_
    rw [strOfNums_size, strOfNums_size]
    refine evn (by omega) ?_
    by_cases c : n = 0
    · rw [if_pos c]
      refine evp (by omega) ?_
      refine evp (by omega) ?_
      rw [str_app]
      exact Ev.now _
    · rw [if_neg c]
      refine evn (by omega) ?_
      rw [w64_id (x := (Z.length : Int) - (n : Int)) (by omega) (by omega)]
      have eT : ((Z.length : Int) - (n : Int)).toNat = Z.length - n := by omega
      rw [eT]
      have e1 : (strOfNums Z).extract 0 (Z.length - n) = strOfNums (Z.take (Z.length - n)) := by
        apply ByteArray.ext
        rw [ByteArray.data_extract]
        apply Array.toList_inj.1
        rw [Array.toList_extract, List.extract_eq_take_drop]
        simp [strOfNums]
      have e2 : (strOfNums Z).extract (Z.length - n) Z.length = strOfNums (Z.drop (Z.length - n)) := by
        apply ByteArray.ext
        rw [ByteArray.data_extract]
        apply Array.toList_inj.1
        rw [Array.toList_extract, List.extract_eq_take_drop]
        show List.take _ (List.drop _ (Z.map fun n => UInt8.ofNat n.toNat)) = (Z.drop _).map _
        rw [List.map_drop, List.take_of_length_le (by rw [List.length_drop, List.length_map]; exact Nat.le_refl _)]
      rw [e1, e2, show (⟨#[46]⟩ : ByteArray) = strOfNums [46] from by decide +kernel, str_app, str_app, str_app, strOfNums_size, strOfNums_size, strOfNums_size, strOfNums_size]
      refine evp (by omega) ?_
      refine evp (by omega) ?_
      refine evp (by rw [List.length_take]; omega) ?_
      refine evp (by rw [List.length_append, List.length_take]; omega) ?_
      refine evp (by rw [List.length_append, List.length_append, List.length_take, List.length_drop]; simp; omega) ?_
      rw [show sign ++ (Z.take (Z.length - n) ++ (46 :: Z.drop (Z.length - n))) = ((sign ++ Z.take (Z.length - n)) ++ [46]) ++ Z.drop (Z.length - n) from by simp]
      exact Ev.now _
  | succ e ih =>
    intro i h hl hT
    have nx := ih (i + 1) (by omega) (by omega) hT
    refine Ev.step (fun k => by rw [regimenref05_Put.l1]) ?_
    refine evp (by rw [strOfNums_size, List.length_append, List.length_replicate]; omega) ?_
    refine evp (by rw [strOfNums_size, List.length_append, List.length_replicate]; omega) ?_
    rw [show (⟨#[48]⟩ : ByteArray) = strOfNums [48] from by decide +kernel, str_app]
    rw [List.replicate_succ] at nx
    exact nx
theorem back_iff {W f : Int} (hf0 : 0 ≤ f) (hf1 : f < 4294967296) (n : Nat) : rnd ((W * 4294967296 + f) * 10 ^ n) 4294967296 = (if n = 0 then rnd (W * 4294967296 + f) 4294967296 else W * 10 ^ n + nd f n) ∧ (rnd (rnd ((W * 4294967296 + f) * 10 ^ n) 4294967296 * 4294967296) (10 ^ n) = W * 4294967296 + f ↔ isback f n) := by
  have p := ten_pos n
  by_cases c : n = 0
  · subst c
    rw [if_pos rfl, show (10 : Int) ^ 0 = 1 from rfl, Int.mul_one]
    refine ⟨rfl, ?_⟩
    have e := rnd_exact (rnd (W * 4294967296 + f) 4294967296 * 4294967296) (d := 1) (by omega)
    rw [Int.mul_one] at e
    rw [e, isback_zero hf0 hf1]
    constructor
    · intro h
      omega
    · intro h
      rw [h, Int.add_zero, rnd_exact W (by omega)]
  · rw [if_neg c]
    have ev := ten_even (n := n) (by omega)
    have e1 : rnd ((W * 4294967296 + f) * 10 ^ n) 4294967296 = W * 10 ^ n + nd f n := by
      have : (W * 4294967296 + f) * 10 ^ n = (W * 10 ^ n) * 4294967296 + f * 10 ^ n := by
        rw [Int.add_mul, Int.mul_assoc, Int.mul_assoc, Int.mul_comm (10 ^ n)]
      rw [this]
      exact rnd_shift _ (by omega) (mul_even ev)
    refine ⟨e1, ?_⟩
    rw [e1]
    have e2 : (W * 10 ^ n + nd f n) * 4294967296 = (W * 4294967296) * 10 ^ n + nd f n * 4294967296 := by
      rw [Int.add_mul, Int.mul_assoc, Int.mul_assoc, Int.mul_comm (10 ^ n)]
    rw [e2, rnd_shift _ p (by omega)]
    unfold isback
    omega
theorem ref_put_l0 {x : Int} (hx : -9223372036854775808 ≤ x ∧ x < 9223372036854775808) {n : Nat} (hf : fewest (iabs x % 4294967296) n) {a : List Int} (da : dok a) (va : dv a = iabs x) (la : a.length ≤ 4) (e : Nat) : ∀ i : Nat, i + e = n →
    Ev (fun k => regimenref05_Put.l0 k a (strOfNums (if x < 0 then [45] else [])) (i : Int)) (strOfNums (putl x n)) := by
  have u0 := iabs_nonneg x
  have u1 := iabs_lt hx
  have h10 := hf.1
  have hu : iabs x / 4294967296 * 4294967296 + iabs x % 4294967296 = iabs x := by omega
  have one : ∀ i : Nat, i ≤ 10 → ∀ {R : ByteArray}, (isback (iabs x % 4294967296) i → ∀ D : List Int, dok D → dv D = rnd (iabs x * 10 ^ i) 4294967296 → D.length ≤ 60 → Ev (fun k => (regimenref05_Text.f k D).bind fun t => regimenref05_Put.l1 k (strOfNums (if x < 0 then [45] else [])) (i : Int) t) R) → (¬ isback (iabs x % 4294967296) i → Ev (fun k => regimenref05_Put.l0 k a (strOfNums (if x < 0 then [45] else [])) ((i + 1 : Nat) : Int)) R) → Ev (fun k => regimenref05_Put.l0 k a (strOfNums (if x < 0 then [45] else [])) (i : Int)) R := by
    intro i hi R hb hnb
    have bk := (back_iff (W := iabs x / 4294967296) (f := iabs x % 4294967296) (by omega) (by omega) i).2
    rw [hu] at bk
    obtain ⟨t, ht, dt, vt, lt⟩ := tens_ok i (by omega)
    obtain ⟨p, hp, dp, vp, lp⟩ := times_ok a t da dt (by omega) (by omega)
    obtain ⟨w, hw, dw, vw, lw⟩ := twos_ok 32 (by omega)
    rw [show (2 : Int) ^ (32 : Int).toNat = 4294967296 from by decide] at vw
    have lw : w.length ≤ 33 := lw
    obtain ⟨D, hD, dD, vD, lD⟩ := rounded_t p w dp dw (by omega) (by omega) (by omega)
    rw [vp, va, vt, vw] at vD
    obtain ⟨z, hz, dz, vz, lz⟩ := read_ok5 D i dD (by omega) (by omega)
    rw [vD] at vz
    have hc := cmp_ok z a dz da (by omega) (by omega)
    rw [vz, va] at hc
    refine Ev.step (fun k => by rw [regimenref05_Put.l0]) ?_
    refine evp (by omega) ?_
    refine Ev.bind ht ?_
    refine Ev.bind hp ?_
    refine Ev.bind hw ?_
    refine Ev.bind hD ?_
    refine Ev.bind hz ?_
    refine Ev.bind hc ?_
    by_cases c : isback (iabs x % 4294967296) i
    · have := bk.2 c
      refine evp (by rw [if_neg (by omega), if_neg (by omega)]) ?_
      exact hb c D dD vD (by omega)
    · have : ¬ _ := fun q => c (bk.1 q)
      refine evn (by split; (omega); split <;> omega) ?_
      rw [w64_succ (by omega)]
      exact hnb c
  induction e with
  | zero =>
    intro i h
    obtain rfl : i = n := by omega
    refine one i h10 (fun _ D dD vD lD => ?_) (fun q => absurd hf.2.1 q)
    have bk := (back_iff (W := iabs x / 4294967296) (f := iabs x % 4294967296) (by omega) (by omega) i).1
    rw [hu] at bk
    have hs : (if x < 0 then [(45 : Int)] else []).length ≤ 1 := by split <;> simp
    have hz := fewest_zero (f := iabs x % 4294967296) (by omega) (by omega) hf
    by_cases c : i = 0
    · have f0 := hz.1 c
      have vD2 : dv D = iabs x / 4294967296 := by
        have e := rnd_exact (iabs x / 4294967296) (d := 4294967296) (by omega)
        rw [show iabs x / 4294967296 * 4294967296 = iabs x from by omega] at e
        rw [vD, bk, if_pos c]
        exact e
      refine Ev.bind (text5_ok dD vD2 (by omega) (by omega) (by omega)) ?_
      obtain ⟨l0, l1, hd, hv, hzz⟩ := tell_ex (u := iabs x / 4294967296) (by omega) (by omega)
      have l := put_l1 (if x < 0 then [45] else []) hs (T := tell (iabs x / 4294967296)) (n := i) (by omega) 0 0 (by omega) (by omega) l0
      rw [if_pos c, show i + 1 - (tell (iabs x / 4294967296)).length = 0 from by omega] at l
      unfold putl
      rw [if_pos c, List.append_nil]
      exact l
    · have lt := nd_lt (f := iabs x % 4294967296) (by omega) (by omega) hf.2.1
      have bd := nd_le (f := iabs x % 4294967296) i (by omega) (by omega)
      have vD2 : dv D = iabs x / 4294967296 * 10 ^ i + nd (iabs x % 4294967296) i := by
        rw [vD, bk, if_neg c]
      have hm := ten_mono (m := i) (n := 10) (by omega)
      have e10 : (10 : Int) ^ 10 = 10000000000 := by decide
      have p := ten_pos i
      have hb := mul_bd (x := iabs x / 4294967296) (y := 10 ^ i) (M := 2147483648) (N := 10000000000) (by omega) (by omega) (by omega) (by omega)
      refine Ev.bind (text5_ok dD vD2 (by omega) (by omega) (by omega)) ?_
      obtain ⟨l0, l1, hd, hv, hzz⟩ := tell_ex (u := iabs x / 4294967296 * 10 ^ i + nd (iabs x % 4294967296) i) (by omega) (by omega)
      have sp := split_text (W := iabs x / 4294967296) (d := nd (iabs x % 4294967296) i) (n := i) (by omega) (by omega) (by omega) (by omega) bd.1 lt
      have l := put_l1 (if x < 0 then [45] else []) hs (T := tell (iabs x / 4294967296 * 10 ^ i + nd (iabs x % 4294967296) i)) (n := i) (by omega) (i + 1 - (tell (iabs x / 4294967296 * 10 ^ i + nd (iabs x % 4294967296) i)).length) 0 (by omega) (by omega) l0
      have pl := padn_len i (nd (iabs x % 4294967296) i)
      rw [if_neg c, sp, List.length_append, pl, Nat.add_sub_cancel, List.take_left', List.drop_left'] at l
      · unfold putl
        rw [if_neg c]
        exact l
      · rfl
      · rfl
  | succ e ih =>
    intro i h
    have nx := ih (i + 1) (by omega)
    exact one i (by omega) (fun q => absurd q (hf.2.2 i (by omega))) (fun _ => nx)
theorem ref_put_ok {x : Int} (hx : -9223372036854775808 ≤ x ∧ x < 9223372036854775808) {n : Nat} (hf : fewest (iabs x % 4294967296) n) : Ev (fun k => regimenref05_Put.f k x) (strOfNums (putl x n)) := by
  obtain ⟨a, ha, da, va, la⟩ := ref_size_ok hx
  have l := ref_put_l0 hx hf da va (by omega) n 0 (by omega)
  unfold regimenref05_Put.f
  refine evs ha ?_
  by_cases c : x < 0
  · rw [if_pos c] at l
    refine evp c ?_
    refine Ev.step (fun k => by rw [regimenref05_Put.j0]) ?_
    exact l
  · rw [if_neg c] at l
    refine evn c ?_
    refine Ev.step (fun k => by rw [regimenref05_Put.j0]) ?_
    exact l
end Go.Proofs.YtcgdhpnobgimfaaDoor.Num
end
section
namespace Go.Proofs.YtcgdhpnobgimfaaDoor.Num
set_option linter.unusedVariables false
set_option linter.unusedSimpArgs false
open Go.RowKit Go.Proofs.YtcgdhpnobgimfaaDoor.PI Go.Proofs.YtcgdhpnobgimfaaDoorW.PrintWords Go.Proofs.YtcgdhpnobgimfaaDoorW.PrintMore

theorem tl_eq (s t : ByteArray) : s.toList = t.toList ↔ s = t := by
  rw [ByteArray.toList_eq, ByteArray.toList_eq]
  constructor
  · intro h
    exact ByteArray.ext (Array.ext' h)
  · rintro rfl
    rfl
/-- What stands ahead of the first c. -/
def bef (c : Int) : List Int → List Int
  | [] => []
  | x :: t => if x = c then [] else x :: bef c t
theorem bef_some {c : Int} : ∀ {l : List Int}, c ∈ l → l = bef c l ++ c :: l.drop ((bef c l).length + 1) ∧ c ∉ bef c l
  | [], h => by cases h
  | x :: t, h => by
    by_cases e : x = c
    · subst e
      rw [show bef x (x :: t) = [] from if_pos rfl]
      exact ⟨rfl, by simp⟩
    · rw [show bef c (x :: t) = x :: bef c t from if_neg e]
      have hm : c ∈ t := by
        rcases List.mem_cons.1 h with q | q
        · exact absurd q.symm e
        · exact q
      obtain ⟨h1, h2⟩ := bef_some hm
      refine ⟨?_, ?_⟩
      · rw [List.cons_append, List.length_cons, List.drop_succ_cons, ← h1]
      · intro q
        rcases List.mem_cons.1 q with q | q
        · exact e q.symm
        · exact h2 q
theorem bef_take {c : Int} {l : List Int} (h : c ∈ l) : l.take (bef c l).length = bef c l := by
  have e := congrArg (List.take (bef c l).length) (bef_some h).1
  rw [List.take_left' rfl] at e
  exact e
theorem index_list (c : UInt8) : ∀ L : List UInt8, Lib.indexByte L c = if (c.toNat : Int) ∈ L.map (fun b => (b.toNat : Int)) then ((bef (c.toNat : Int) (L.map fun b => (b.toNat : Int))).length : Int) else -1
  | [] => rfl
  | b :: t => by
    have ih := index_list c t
    show (if b == c then 0 else if Lib.indexByte t c == -1 then -1 else Lib.indexByte t c + 1) = _
    rw [List.map_cons]
    by_cases e : b = c
    · subst e
      rw [if_pos (by simp), if_pos (by simp), show bef (b.toNat : Int) ((b.toNat : Int) :: _) = [] from if_pos rfl]
      rfl
    · have ne : (b.toNat : Int) ≠ (c.toNat : Int) := fun q => e (UInt8.toNat_inj.1 (by omega))
      rw [if_neg (by simpa using e), show bef (c.toNat : Int) ((b.toNat : Int) :: t.map _) = (b.toNat : Int) :: bef (c.toNat : Int) (t.map _) from if_neg ne]
      by_cases m : (c.toNat : Int) ∈ t.map (fun b => (b.toNat : Int))
      · rw [if_pos m] at ih
        have n1 : ¬ ((Lib.indexByte t c == -1) = true) := by
          rw [beq_iff_eq, ih]
          omega
        rw [if_neg n1, if_pos (List.mem_cons_of_mem _ m), ih, List.length_cons]
        omega
      · rw [if_neg m] at ih
        have n1 : (Lib.indexByte t c == -1) = true := by rw [ih]; rfl
        have n2 : ¬ ((c.toNat : Int) ∈ (b.toNat : Int) :: t.map (fun b => (b.toNat : Int))) := fun q => by
          rcases List.mem_cons.1 q with q | q
          · exact ne q.symm
          · exact m q
        rw [if_pos n1, if_neg n2]
theorem index_nums (s : ByteArray) (c : UInt8) : Lib.indexByte s.data.toList c = if (c.toNat : Int) ∈ numsOf s then ((bef (c.toNat : Int) (numsOf s)).length : Int) else -1 := index_list c _
end Go.Proofs.YtcgdhpnobgimfaaDoor.Num
end
section
namespace Go.Proofs.YtcgdhpnobgimfaaDoor.Num
set_option linter.unusedVariables false
set_option linter.unusedSimpArgs false
open Go.RowKit Go.Proofs.YtcgdhpnobgimfaaDoor.PI Go.Proofs.YtcgdhpnobgimfaaDoorW.PrintWords Go.Proofs.YtcgdhpnobgimfaaDoorW.PrintMore

def wordsL : List ByteArray := [(⟨#[]⟩ : ByteArray), (⟨#[112, 104, 97, 115, 101]⟩ : ByteArray), (⟨#[116, 104, 97, 119]⟩ : ByteArray), (⟨#[102, 114, 101, 101, 122, 101]⟩ : ByteArray), (⟨#[115, 119, 97]⟩ : ByteArray), (⟨#[102, 97, 105, 108]⟩ : ByteArray), (⟨#[109, 105, 115, 115]⟩ : ByteArray), (⟨#[107, 101, 101, 112]⟩ : ByteArray), (⟨#[100, 114, 111, 112]⟩ : ByteArray), (⟨#[99, 117, 116]⟩ : ByteArray), (⟨#[115, 116, 111, 112]⟩ : ByteArray), (⟨#[101, 110, 100]⟩ : ByteArray)]
/-- A kind's word. -/
def word (k : Int) : ByteArray := if 0 ≤ k ∧ k < 12 then rdOf ByteArray.empty wordsL k else ⟨#[]⟩
/-- An event's line. -/
def headW (k : Int) : ByteArray := if 1 ≤ k ∧ k ≤ 11 then word k else ⟨#[63]⟩
def lineV (k n : Int) : ByteArray := headW k ++ (⟨#[32]⟩ : ByteArray) ++ tellv n
theorem size_app (a b : ByteArray) : (a ++ b).size = a.size + b.size := ByteArray.size_append
/-! ### Which event a line is -/
end Go.Proofs.YtcgdhpnobgimfaaDoor.Num
end
section
namespace Go.Proofs.YtcgdhpnobgimfaaDoor.Num
set_option linter.unusedVariables false
set_option linter.unusedSimpArgs false
open Go.RowKit Go.Proofs.YtcgdhpnobgimfaaDoor.PI Go.Proofs.YtcgdhpnobgimfaaDoorW.PrintWords Go.Proofs.YtcgdhpnobgimfaaDoorW.PrintMore

end Go.Proofs.YtcgdhpnobgimfaaDoor.Num
end
section
namespace Go.Proofs.YtcgdhpnobgimfaaDoor.Num
set_option linter.unusedVariables false
set_option linter.unusedSimpArgs false
open Go.RowKit Go.Proofs.YtcgdhpnobgimfaaDoor.PI Go.Proofs.YtcgdhpnobgimfaaDoorW.PrintWords Go.Proofs.YtcgdhpnobgimfaaDoorW.PrintMore

theorem same1_l0 (l : List Int) (m : Nat) : ∀ {i : Nat}, i + m = l.length → l.length ≤ 1000000 → Ev (fun k => regimenref01_Same.l0 k l l (i : Int)) true := by
  induction m with
  | zero =>
    intro i h hl
    refine Ev.step (fun k => by rw [regimenref01_Same.l0]) ?_
    exact evn (by omega) (Ev.now _)
  | succ m ih =>
    intro i h hl
    refine Ev.step (fun k => by rw [regimenref01_Same.l0]) ?_
    refine evp (by omega) ?_
    refine evp (by omega) ?_
    refine evp (by omega) ?_
    refine evp rfl ?_
    rw [w64_succ (by omega)]
    exact ih (by omega) hl
theorem same1_ok (l : List Int) (hl : l.length ≤ 1000000) : Ev (fun k => regimenref01_Same.f k l l) true := by
  unfold regimenref01_Same.f
  refine evp rfl ?_
  exact same1_l0 l l.length (i := 0) (by omega) hl
/-- The first n values of T. -/
def tab (T : Nat → Int) (n : Nat) : List Int := (List.range n).map T
def word' (x : Int) : Prop := -9223372036854775808 ≤ x ∧ x < 9223372036854775808
end Go.Proofs.YtcgdhpnobgimfaaDoor.Num
end
section
namespace Go.Proofs.YtcgdhpnobgimfaaDoor.Num
set_option linter.unusedVariables false
set_option linter.unusedSimpArgs false
open Go.RowKit Go.Proofs.YtcgdhpnobgimfaaDoor.PI Go.Proofs.YtcgdhpnobgimfaaDoorW.PrintWords Go.Proofs.YtcgdhpnobgimfaaDoorW.PrintMore

/-- May a sum be? -/
def smay (c : Int) (s : List Int) : Prop := 0 ≤ c ∧ c ≤ 1048576 ∧ (c = 0 → s.length = 0)
instance (c : Int) (s : List Int) : Decidable (smay c s) := by unfold smay; infer_instance
end Go.Proofs.YtcgdhpnobgimfaaDoor.Num
end
section
namespace Go.Proofs.YtcgdhpnobgimfaaDoor.Num
set_option linter.unusedVariables false
set_option linter.unusedSimpArgs false
open Go.RowKit Go.Proofs.YtcgdhpnobgimfaaDoor.PI Go.Proofs.YtcgdhpnobgimfaaDoorW.PrintWords Go.Proofs.YtcgdhpnobgimfaaDoorW.PrintMore

/-- A number's decimal. -/
noncomputable def decS (x : Int) : ByteArray := strOfNums (putl x (Classical.choose (fewest_ex (f := iabs x % 4294967296))))
theorem dput_ok {x : Int} (hx : word' x) : Ev (fun k => dec_Put.f k x) (decS x) := dec_put_ok hx (Classical.choose_spec fewest_ex)
theorem rput_ok {x : Int} (hx : word' x) : Ev (fun k => regimenref05_Put.f k x) (decS x) := ref_put_ok hx (Classical.choose_spec fewest_ex)
theorem decS_size {x : Int} (hx : word' x) : (decS x).size ≤ 100 := by
  unfold decS
  have h := Classical.choose_spec (fewest_ex (f := iabs x % 4294967296))
  generalize Classical.choose (fewest_ex (f := iabs x % 4294967296)) = n at h
  have := (putl_byte x n hx).2
  have := h.1
  rw [strOfNums_size]
  omega
/-- Words, a blank ahead of each. -/
def tailS : List ByteArray → ByteArray
  | [] => ⟨#[]⟩
  | b :: l => (⟨#[32]⟩ : ByteArray) ++ b ++ tailS l
theorem tailS_size {l : List ByteArray} (h : ∀ b, b ∈ l → b.size ≤ 100) : (tailS l).size ≤ 101 * l.length := by
  induction l with
  | nil => exact Nat.le_refl _
  | cons b l ih =>
    have := ih fun c hc => h c (List.mem_cons_of_mem _ hc)
    have := h b List.mem_cons_self
    have e : (⟨#[32]⟩ : ByteArray).size = 1 := rfl
    rw [tailS, size_app, size_app, List.length_cons]
    omega
theorem ba_ext {a b : ByteArray} (h : a.data.toList = b.data.toList) : a = b := by
  cases a
  cases b
  simpa using h
theorem ba_app (a b : ByteArray) : (a ++ b).data.toList = a.data.toList ++ b.data.toList := by simp
theorem app_assoc (a b c : ByteArray) : a ++ b ++ c = a ++ (b ++ c) := ba_ext (by simp only [ba_app, List.append_assoc])
theorem app_nil (a : ByteArray) : a ++ (⟨#[]⟩ : ByteArray) = a := ba_ext (by rw [ba_app]; exact List.append_nil _)
theorem join_tail (b : ByteArray) (l : List ByteArray) : (⟨(Lib.join ((b :: l).map (·.data.toList)) [32]).toArray⟩ : ByteArray) = b ++ tailS l := by
  induction l generalizing b with
  | nil =>
    refine ba_ext ?_
    rw [tailS, app_nil]
    simp [Lib.join]
  | cons c l ih =>
    refine ba_ext ?_
    have := congrArg (fun x : ByteArray => x.data.toList) (ih c)
    simp only [ba_app] at this
    rw [tailS, ba_app, ba_app, ba_app, List.append_assoc, ← this]
    simp [Lib.join, List.intercalate]
theorem getD_get {l : List Int} {i : Nat} (h : i < l.length) : l.getD i 0 = l[i] := by rw [List.getD_eq_getElem?_getD, List.getElem?_eq_getElem h]; rfl
/-- Numbers' decimals. -/
noncomputable def decL (l : List Int) : List ByteArray := l.map decS
theorem decL_size {l : List Int} (hl : ∀ x, x ∈ l → word' x) : ∀ b, b ∈ decL l → b.size ≤ 100 := by
  intro b hb
  obtain ⟨x, hx, rfl⟩ := List.mem_map.1 hb
  exact decS_size (hl x hx)
theorem decL_len (l : List Int) : (decL l).length = l.length := List.length_map _
/-- A status' word. -/
def wordS (a : Int) : ByteArray := if a = 0 then (⟨#[103, 111, 101, 115]⟩ : ByteArray) else if a = 1 then (⟨#[100, 111, 110, 101]⟩ : ByteArray) else if a = 2 then (⟨#[115, 116, 111, 112, 112, 101, 100]⟩ : ByteArray) else if a = 3 then (⟨#[102, 97, 105, 108, 101, 100]⟩ : ByteArray) else (⟨#[63]⟩ : ByteArray)
end Go.Proofs.YtcgdhpnobgimfaaDoor.Num
end
section
namespace Go.Proofs.YtcgdhpnobgimfaaDoor.Num
set_option linter.unusedVariables false
set_option linter.unusedSimpArgs false
open Go.RowKit Go.Proofs.YtcgdhpnobgimfaaDoor.PI Go.Proofs.YtcgdhpnobgimfaaDoorW.PrintWords Go.Proofs.YtcgdhpnobgimfaaDoorW.PrintMore

/-- A text's parts. -/
def pcs (c : Int) : List Int → List (List Int)
  | [] => [[]]
  | x :: l => if x = c then [] :: pcs c l else (x :: (pcs c l).headD []) :: (pcs c l).tail
theorem pcs_eq (c x : Int) (l : List Int) : pcs c (x :: l) = if x = c then [] :: pcs c l else (x :: (pcs c l).headD []) :: (pcs c l).tail := rfl
/-- Parts with a byte between them. -/
def jn (c : Int) : List (List Int) → List Int
  | [] => []
  | [w] => w
  | w :: v :: r => w ++ c :: jn c (v :: r)
theorem pcs_ne (c : Int) (l : List Int) : pcs c l ≠ [] := by
  cases l with
  | nil => simp [pcs]
  | cons x l => unfold pcs; split <;> simp
theorem pcs_ht (c : Int) (l : List Int) : pcs c l = (pcs c l).headD [] :: (pcs c l).tail := by
  cases h : pcs c l with
  | nil => exact absurd h (pcs_ne c l)
  | cons w r => rfl
theorem jn_cons (c : Int) (w : List Int) {r : List (List Int)} (h : r ≠ []) : jn c (w :: r) = w ++ c :: jn c r := by
  cases r with
  | nil => exact absurd rfl h
  | cons v r => rfl
theorem pcs_none {c : Int} : ∀ {w : List Int}, c ∉ w → pcs c w = [w]
  | [], _ => rfl
  | x :: w, h => by
    rw [List.mem_cons, not_or] at h
    unfold pcs
    rw [if_neg (fun q => h.1 q.symm), pcs_none h.2]
    rfl
theorem pcs_cons {c : Int} {l : List Int} : ∀ {w : List Int}, c ∉ w → pcs c (w ++ c :: l) = w :: pcs c l
  | [], _ => by
    show pcs c (c :: l) = _
    rw [pcs_eq, if_pos rfl]
  | x :: w, h => by
    rw [List.mem_cons, not_or] at h
    show pcs c (x :: (w ++ c :: l)) = _
    rw [pcs_eq, if_neg (fun q => h.1 q.symm), pcs_cons h.2]
    rfl
theorem jn_pcs {c : Int} : ∀ {ws : List (List Int)}, ws ≠ [] → (∀ w ∈ ws, c ∉ w) → pcs c (jn c ws) = ws
  | [], h, _ => absurd rfl h
  | [w], _, h => pcs_none (h w List.mem_cons_self)
  | w :: v :: r, _, h => by
    rw [jn_cons c w (by simp), pcs_cons (h w List.mem_cons_self), jn_pcs (by simp) fun x hx => h x (List.mem_cons_of_mem _ hx)]
theorem pcs_bef {c : Int} {l : List Int} (h : c ∈ l) : pcs c l = bef c l :: pcs c (l.drop ((bef c l).length + 1)) := by
  have := bef_some h
  conv => lhs; rw [this.1]
  rw [pcs_cons this.2]
theorem index_one (c : UInt8) : ∀ l : List UInt8, Lib.index l [c] = Lib.indexByte l c
  | [] => rfl
  | b :: l => by
    rw [Lib.index, Lib.indexByte, index_one c l]
    by_cases h : b = c
    · subst h
      rw [if_pos (by simp [List.isPrefixOf]), if_pos (by simp)]
    · rw [if_neg (by simp [List.isPrefixOf]; exact fun q => h q.symm)]
      have hb : ¬ (b == c) = true := by simpa using h
      rw [if_neg hb]
def partsB (c : UInt8) (s : ByteArray) : List ByteArray := (pcs (c.toNat : Int) (numsOf s)).map strOfNums
theorem split_loop (c : UInt8) : ∀ (k : Nat) (s : ByteArray), Lib.countB s ⟨#[c]⟩ = k → Lib.splitB ⟨#[c]⟩ 0 k s = partsB c s
  | k, s, hk => by
    have hz : (⟨#[c]⟩ : ByteArray).size = 1 := rfl
    have hix : Lib.indexB s ⟨#[c]⟩ = if (c.toNat : Int) ∈ numsOf s then ((bef (c.toNat : Int) (numsOf s)).length : Int) else -1 := by
      rw [← index_nums]
      exact index_one c _
    unfold partsB
    by_cases h : (c.toNat : Int) ∈ numsOf s
    · rw [if_pos h] at hix
      have hc := Lib.countB_hit s ⟨#[c]⟩ _ (by rw [hz]; exact Nat.le_refl _) hix
      rw [hz] at hc
      cases k with
      | zero => omega
      | succ k =>
        rw [Lib.splitB_hit ⟨#[c]⟩ 0 k s _ hix, hz, split_loop c k _ (by omega), pcs_bef h, List.map_cons]
        unfold partsB
        rw [nums_drop]
        congr 1
        rw [Nat.add_zero, ← str_nums (s.extract 0 _), nums_take, bef_take h]
    · rw [if_neg h] at hix
      rw [Lib.splitB_miss ⟨#[c]⟩ 0 k s hix, pcs_none h]
      simp only [List.map_cons, List.map_nil, str_nums]
theorem parts_size {c : UInt8} {s w : ByteArray} (h : w ∈ partsB c s) : w.size ≤ s.size := by
  obtain ⟨p, hp, rfl⟩ := List.mem_map.1 h
  have key : ∀ (l : List Int), ∀ p ∈ pcs (c.toNat : Int) l, p.length ≤ l.length := by
    intro l
    induction l with
    | nil => intro p hp; rw [pcs, List.mem_singleton] at hp; rw [hp]; exact Nat.le_refl _
    | cons x l ih =>
      intro p hp
      have ih2 := ih
      rw [pcs_ht] at ih2
      unfold pcs at hp
      split at hp
      · rcases List.mem_cons.1 hp with rfl | hp
        · simp
        · have := ih p hp
          rw [List.length_cons]
          omega
      · rcases List.mem_cons.1 hp with rfl | hp
        · have := ih2 _ List.mem_cons_self
          rw [List.length_cons, List.length_cons]
          omega
        · have := ih2 p (List.mem_cons_of_mem _ hp)
          rw [List.length_cons]
          omega
  have := key _ p hp
  rw [nums_len] at this
  have e : (strOfNums p).size = p.length := by
    unfold strOfNums
    show (Array.size _) = _
    simp
  omega
theorem parts_len {c : UInt8} {s : ByteArray} : (partsB c s).length ≤ s.size + 1 := by
  unfold partsB
  rw [List.length_map, ← nums_len]
  generalize numsOf s = l
  induction l with
  | nil => simp [pcs]
  | cons x l ih =>
    unfold pcs
    split
    · simp only [List.length_cons] at ih ⊢
      omega
    · rw [pcs_ht] at ih
      simp only [List.length_cons] at ih ⊢
      omega
theorem split_ok (k : Nat) (s : ByteArray) (hs : s.size < 4294967281) (c : UInt8) : strings_Split.f k s ⟨#[c]⟩ = some (partsB c s) := by
  unfold strings_Split.f
  rw [if_pos ⟨hs, Nat.le_refl _⟩, split_loop c _ s rfl]
end Go.Proofs.YtcgdhpnobgimfaaDoor.Num
end
section
namespace Go.Proofs.YtcgdhpnobgimfaaDoor.Num
set_option linter.unusedVariables false
set_option linter.unusedSimpArgs false
open Go.RowKit Go.Proofs.YtcgdhpnobgimfaaDoor.PI Go.Proofs.YtcgdhpnobgimfaaDoorW.PrintWords Go.Proofs.YtcgdhpnobgimfaaDoorW.PrintMore

abbrev EvT := Int × Int × Int × Unit
abbrev OutT := Int × Int × (List Int) × (List Bool) × (List EvT) × Int × Unit
/-- The words of a group's line behind its number. -/
noncomputable def grpW (o : OutT) (i : Nat) : List ByteArray := decL ((o.2.2.1.take (3 * i + 3)).drop (3 * i)) ++ (if i < o.2.2.2.1.length ∧ o.2.2.2.1.getD i false = true then [(⟨#[102, 114, 111, 122, 101, 110]⟩ : ByteArray)] else [])
noncomputable def grpS (o : OutT) (i : Nat) : ByteArray := (⟨#[32, 32, 103, 114, 111, 117, 112]⟩ : ByteArray) ++ tailS (tellv (i : Int) :: grpW o i)
def evS (e : EvT) : ByteArray := (⟨#[32, 32]⟩ : ByteArray) ++ lineV e.2.1 e.2.2.1
def headS (o : OutT) : ByteArray := (⟨#[115, 116, 101, 112]⟩ : ByteArray) ++ tailS [tellv o.1, (⟨#[112, 104, 97, 115, 101]⟩ : ByteArray), tellv o.2.1, wordS o.2.2.2.2.2.1]
/-- What a step is made of. -/
structure OutOk (o : OutT) : Prop where
  step : word' o.1
  phase : word' o.2.1
  vals : ∀ x, x ∈ o.2.2.1 → word' x
  nv : o.2.2.1.length ≤ 600
  nf : o.2.2.2.1.length ≤ 600
  ne : o.2.2.2.2.1.length ≤ 600
  evs : ∀ e, e ∈ o.2.2.2.2.1 → word' e.2.2.1
noncomputable def stepL (o : OutT) : List ByteArray := [headS o] ++ (List.range' 0 (o.2.2.1.length / 3)).map (grpS o) ++ (o.2.2.2.2.1.drop 0).map evS
section
variable {o : OutT} (ok : OutOk o)
include ok
end
end Go.Proofs.YtcgdhpnobgimfaaDoor.Num
end
section
namespace Go.Proofs.YtcgdhpnobgimfaaDoor.Num
set_option linter.unusedVariables false
set_option linter.unusedSimpArgs false
open Go.RowKit Go.Proofs.YtcgdhpnobgimfaaDoor.PI Go.Proofs.YtcgdhpnobgimfaaDoorW.PrintWords Go.Proofs.YtcgdhpnobgimfaaDoorW.PrintMore

/-- A line out of its words. -/
theorem join_words (b : ByteArray) (l : List ByteArray) : numsOf (b ++ tailS l) = jn 32 ((b :: l).map numsOf) := by
  induction l generalizing b with
  | nil => rw [tailS, app_nil]; rfl
  | cons c l ih =>
    rw [tailS, app_assoc, nums_app, nums_app, ih c]
    rfl
theorem words_of (b : ByteArray) (l : List ByteArray) (h : ∀ w ∈ b :: l, (32 : Int) ∉ numsOf w) : partsB 32 (b ++ tailS l) = b :: l := by
  unfold partsB
  rw [join_words, show ((32 : UInt8).toNat : Int) = 32 from rfl, jn_pcs (by simp) (fun w hw => by
    obtain ⟨v, hv, rfl⟩ := List.mem_map.1 hw
    exact h v hv), List.map_map]
  have : (strOfNums ∘ numsOf) = id := funext str_nums
  rw [this, List.map_id]
/-! ### values and groups -/
theorem decv_decS {n : Int} (hn : word' n) : decv (numsOf (decS n)) = (n, 0) := by
  unfold decS
  have h := Classical.choose_spec (fewest_ex (f := iabs n % 4294967296))
  rw [(putl_byte n _ hn).1]
  exact (putl_back hn h).1
end Go.Proofs.YtcgdhpnobgimfaaDoor.Num
end
section
namespace Go.Proofs.YtcgdhpnobgimfaaDoor.Num
set_option linter.unusedVariables false
set_option linter.unusedSimpArgs false
open Go.RowKit Go.Proofs.YtcgdhpnobgimfaaDoor.PI Go.Proofs.YtcgdhpnobgimfaaDoorW.PrintWords Go.Proofs.YtcgdhpnobgimfaaDoorW.PrintMore

section
variable {o : OutT} (ok : OutOk o)
include ok
end
end Go.Proofs.YtcgdhpnobgimfaaDoor.Num
end
section
namespace Go.Proofs.YtcgdhpnobgimfaaDoor.Num
set_option linter.unusedVariables false
set_option linter.unusedSimpArgs false
open Go.RowKit Go.Proofs.YtcgdhpnobgimfaaDoor.PI Go.Proofs.YtcgdhpnobgimfaaDoorW.PrintWords Go.Proofs.YtcgdhpnobgimfaaDoorW.PrintMore

/-! ### heads -/
open Classical in
/-! ### events -/
end Go.Proofs.YtcgdhpnobgimfaaDoor.Num
end
section
namespace Go.Proofs.YtcgdhpnobgimfaaDoor.Num
set_option linter.unusedVariables false
set_option linter.unusedSimpArgs false
open Go.RowKit Go.Proofs.YtcgdhpnobgimfaaDoor.PI Go.Proofs.YtcgdhpnobgimfaaDoorW.PrintWords Go.Proofs.YtcgdhpnobgimfaaDoorW.PrintMore

/-! ### groups -/
theorem decv_valid {l : List Int} (h : (decv l).2 = 0) : valid (body l) := by
  unfold decv at h
  split at h
  · assumption
  · cases h
theorem valid_free {l : List Int} (h : valid (body l)) : (32 : Int) ∉ l := by
  obtain ⟨hA, hF, _⟩ := valid_dig h
  have e := valid_split h
  have hb : (32 : Int) ∉ body l := by
    intro hx
    rw [e] at hx
    rcases List.mem_append.1 hx with q | q
    · have := (hA _ q).1
      omega
    · by_cases c : lead (body l) = (body l).length
      · rw [if_pos c] at q
        cases q
      · rw [if_neg c] at q
        rcases List.mem_cons.1 q with q | q
        · omega
        · have := (hF _ q).1
          omega
  intro hx
  unfold body isneg at hb
  by_cases c : 0 < l.length ∧ l.getD 0 0 = 45
  · rw [decide_eq_true c, if_pos rfl] at hb
    cases l with
    | nil => cases hx
    | cons y t =>
      have hy : y = 45 := c.2
      rcases List.mem_cons.1 hx with q | q
      · omega
      · exact hb q
  · rw [decide_eq_false c, if_neg (by simp)] at hb
    exact hb hx
theorem decS_valid {x : Int} (h : word' x) : valid (body (numsOf (decS x))) := decv_valid (by rw [decv_decS h])
theorem decL_free {l : List Int} (hl : ∀ x ∈ l, word' x) : ∀ w ∈ decL l, (32 : Int) ∉ numsOf w := fun w hw => by
  obtain ⟨x, hx, rfl⟩ := List.mem_map.1 hw
  exact valid_free (decS_valid (hl x hx))
end Go.Proofs.YtcgdhpnobgimfaaDoor.Num
end
section
namespace Go.Proofs.YtcgdhpnobgimfaaDoor.Num
set_option linter.unusedVariables false
set_option linter.unusedSimpArgs false
open Go.RowKit Go.Proofs.YtcgdhpnobgimfaaDoor.PI Go.Proofs.YtcgdhpnobgimfaaDoorW.PrintWords Go.Proofs.YtcgdhpnobgimfaaDoorW.PrintMore

section
variable (L : List ByteArray) (hL : ∀ w ∈ L, w.size ≤ 1000) (hn : L.length ≤ 900) (b2 : OutT)
include hL hn
end
/-! ### what is read may be told, and is told as these lines -/
structure TellOk (o : OutT) : Prop where
  step : 0 ≤ o.1 ∧ o.1 ≤ 1099511627776
  phase : 0 ≤ o.2.1 ∧ o.2.1 ≤ 1099511627776
  vals : ∀ x ∈ o.2.2.1, word' x
  len : o.2.2.1.length = 3 * o.2.2.2.1.length
  evs : ∀ e ∈ o.2.2.2.2.1, e.1 = o.1 ∧ (1 ≤ e.2.1 ∧ e.2.1 ≤ 11) ∧ 0 ≤ e.2.2.1 ∧ e.2.2.1 ≤ 1099511627776
  status : 0 ≤ o.2.2.2.2.2.1 ∧ o.2.2.2.2.2.1 ≤ 3
end Go.Proofs.YtcgdhpnobgimfaaDoor.Num
end
section
namespace Go.Proofs.YtcgdhpnobgimfaaDoor.Num
set_option linter.unusedVariables false
set_option linter.unusedSimpArgs false
open Go.RowKit Go.Proofs.YtcgdhpnobgimfaaDoor.PI Go.Proofs.YtcgdhpnobgimfaaDoorW.PrintWords Go.Proofs.YtcgdhpnobgimfaaDoorW.PrintMore

theorem TellOk.out {o : OutT} (ok : TellOk o) (h : (stepL o).length ≤ 100) : OutOk o := by
  have h3 := ok.len
  have h1 := ok.step
  have h2 := ok.phase
  unfold stepL at h
  rw [h3, Nat.mul_div_cancel_left _ (by decide)] at h
  simp only [List.length_append, List.length_map, List.length_range', List.length_cons, List.length_nil, List.length_drop] at h
  refine ⟨by unfold word'; omega, by unfold word'; omega, ok.vals, by omega, by omega, by omega, fun e he => ?_⟩
  have := (ok.evs e he).2.2
  unfold word'
  omega
end Go.Proofs.YtcgdhpnobgimfaaDoor.Num
end
section
namespace Go.Proofs.YtcgdhpnobgimfaaDoor.Num
set_option linter.unusedVariables false
set_option linter.unusedSimpArgs false
open Go.RowKit Go.Proofs.YtcgdhpnobgimfaaDoor.PI Go.Proofs.YtcgdhpnobgimfaaDoorW.PrintWords Go.Proofs.YtcgdhpnobgimfaaDoorW.PrintMore

section
variable {o : OutT} (ok : OutOk o)
include ok
end
end Go.Proofs.YtcgdhpnobgimfaaDoor.Num
end
section
namespace Go.Proofs.YtcgdhpnobgimfaaDoor.Num
set_option linter.unusedVariables false
set_option linter.unusedSimpArgs false
open Go.RowKit Go.Proofs.YtcgdhpnobgimfaaDoor.PI Go.Proofs.YtcgdhpnobgimfaaDoorW.PrintWords Go.Proofs.YtcgdhpnobgimfaaDoorW.PrintMore

/-! ### rounds of the document's answer -/
section
variable (L : List ByteArray) (hL : ∀ w ∈ L, w.size ≤ 200) (hn : L.length ≤ 90) (b2 : OutT)
include hL hn
end
end Go.Proofs.YtcgdhpnobgimfaaDoor.Num
end
section
namespace Go.Proofs.YtcgdhpnobgimfaaDoor.Num
set_option linter.unusedVariables false
set_option linter.unusedSimpArgs false
open Go.RowKit Go.Proofs.YtcgdhpnobgimfaaDoor.PI Go.Proofs.YtcgdhpnobgimfaaDoorW.PrintWords Go.Proofs.YtcgdhpnobgimfaaDoorW.PrintMore

abbrev RdT := Bool × Int × Unit
abbrev InT := (List RdT) × (List Int) × Unit
def barB : ByteArray := ⟨#[124]⟩
def dashB : ByteArray := ⟨#[45]⟩
/-- Words by bars, as the program counts them. -/
def pst : List ByteArray → List ByteArray → List ByteArray → Int → List ByteArray × List ByteArray × Bool × Unit
  | [], a, b, n => (a, b, decide (n = 1), ())
  | w :: r, a, b, n => if w = barB then pst r a b (n + 1) else if n = 0 then pst r (a ++ [w]) b n else pst r a (b ++ [w]) n
theorem bar_tl (w : ByteArray) : w.toList = (⟨#[124]⟩ : ByteArray).toList ↔ w = barB := tl_eq w barB
theorem dash_tl (w : ByteArray) : w.toList = (⟨#[45]⟩ : ByteArray).toList ↔ w = dashB := tl_eq w dashB
theorem dash_tl2 (w : ByteArray) : w.toList = ([45] : List UInt8) ↔ w = dashB := by
  rw [← dash_tl, show (⟨#[45]⟩ : ByteArray).toList = [45] from by decide +kernel]
theorem getD_n {W : List ByteArray} {i : Nat} (h : i < W.length) : W.getD i (⟨#[]⟩ : ByteArray) = W[i] := by rw [List.getD_eq_getElem?_getD, List.getElem?_eq_getElem h]; rfl
theorem parts_loop (W : List ByteArray) (hn : W.length < 1000000) (d : Nat) : ∀ (i : Nat) (a b : List ByteArray) (n : Nat), i + d = W.length → a.length + d ≤ 1000000 → b.length + d ≤ 1000000 → n + d ≤ 1000000 →
    Ev (fun k => input_parts.l3 k a b (n : Int) W (W.length : Int) (i : Int)) (pst (W.drop i) a b n) := by
  induction d with
  | zero =>
    intro i a b n h ha hb hc
    refine Ev.step (fun k => by rw [input_parts.l3]) ?_
    refine evn (by omega) ?_
    rw [List.drop_eq_nil_of_le (by omega : W.length ≤ i), pst, Bool.false_xor]
    exact Ev.now _
  | succ d ih =>
    intro i a b n h ha hb hc
    have hi : i < W.length := by omega
    refine Ev.step (fun k => by rw [input_parts.l3]) ?_
    refine evp (by omega) ?_
    refine evp (by omega) ?_
    refine evp (by omega) ?_
    rw [show ((i : Int)).toNat = i from rfl, getD_n hi, List.drop_eq_getElem_cons hi, pst, w64_succ (by omega)]
    by_cases c : W[i] = barB
    · rw [if_pos c]
      refine evp ((bar_tl _).2 c) ?_
      refine Ev.step (fun k => by rw [input_parts.j10]) ?_
      rw [w64_succ (by omega)]
      exact ih (i + 1) a b (n + 1) (by omega) (by omega) (by omega) (by omega)
    · rw [if_neg c]
      refine evn (fun q => c ((bar_tl _).1 q)) ?_
      by_cases c2 : (n : Int) = 0
      · rw [if_pos c2]
        refine evp c2 ?_
        refine evp (by simp only [List.length_cons, List.length_nil]; omega) ?_
        refine Ev.step (fun k => by rw [input_parts.j10]) ?_
        rw [w64_succ (by omega)]
        exact ih (i + 1) (a ++ [W[i]]) b n (by omega) (by simp only [List.length_append, List.length_cons, List.length_nil]; omega) (by omega) (by omega)
      · rw [if_neg c2]
        refine evn c2 ?_
        refine evp (by simp only [List.length_cons, List.length_nil]; omega) ?_
        refine Ev.step (fun k => by rw [input_parts.j10]) ?_
        rw [w64_succ (by omega)]
        exact ih (i + 1) a (b ++ [W[i]]) n (by omega) (by omega) (by simp only [List.length_append, List.length_cons, List.length_nil]; omega) (by omega)
theorem parts_ok (s : ByteArray) (hs : s.size < 100000) : Ev (fun k => input_parts.f k s) (pst (partsB 32 s) [] [] 0) := by
  have hl : (partsB 32 s).length ≤ s.size + 1 := parts_len
  unfold input_parts.f
  refine Ev.bind (g := fun k => strings_Split.f k s ⟨#[32]⟩) (a := partsB 32 s) ⟨0, fun k _ => split_ok k s (by omega) 32⟩ ?_
  exact parts_loop (partsB 32 s) (by omega) (partsB 32 s).length 0 [] [] 0 (Nat.zero_add _) (by simp only [List.length_nil]; omega) (by simp only [List.length_nil]; omega) (by omega)
/-- One bar: the words ahead of it and behind it. -/
theorem pst_free {B : List ByteArray} (h : barB ∉ B) : ∀ (a b : List ByteArray), pst B a b 1 = (a, b ++ B, true, ()) := by
  induction B with
  | nil => intro a b; rw [pst, List.append_nil]; rfl
  | cons w r ih =>
    intro a b
    rw [List.mem_cons, not_or] at h
    rw [pst, if_neg (fun q => h.1 q.symm), if_neg (by decide), ih h.2, List.append_assoc]
    rfl
theorem pst_one {A B : List ByteArray} (hA : barB ∉ A) (hB : barB ∉ B) : ∀ a : List ByteArray, pst (A ++ barB :: B) a [] 0 = (a ++ A, B, true, ()) := by
  induction A with
  | nil => intro a; rw [List.nil_append, pst, if_pos rfl, List.append_nil]; exact pst_free hB a []
  | cons w r ih =>
    intro a
    rw [List.mem_cons, not_or] at hA
    rw [List.cons_append, pst, if_neg (fun q => hA.1 q.symm), if_pos rfl, ih hA.2, List.append_assoc]
    rfl
/-! ### readings and weights -/
def readv (w : ByteArray) : Bool × Int × Int := if w = dashB then (false, 0, 0) else (true, (decv (numsOf w)).1, (decv (numsOf w)).2)
theorem reading_ok (w : ByteArray) (hw : w.size < 1000000) : Ev (fun k => input_reading.f k w) (readv w) := by
  unfold input_reading.f readv
  by_cases c : w = dashB
  · rw [if_pos c]
    exact evp ((dash_tl2 w).2 c) (Ev.now _)
  · rw [if_neg c]
    exact evn (fun q => c ((dash_tl2 w).1 q)) (Ev.bind (dec_get_ok w hw) (Ev.now _))
/-- Readings in their order, up to the first word that is none; what is told of it. -/
def getA : List ByteArray → List RdT → List RdT × Int
  | [], a => (a, 0)
  | w :: r, a => if (readv w).2.2 = 0 then getA r (a ++ [((readv w).1, (readv w).2.1, ())]) else (a, (readv w).2.2)
def getB : List ByteArray → List Int → List Int × Int
  | [], b => (b, 0)
  | w :: r, b => if (decv (numsOf w)).2 = 0 then getB r (b ++ [(decv (numsOf w)).1]) else (b, (decv (numsOf w)).2)
abbrev noIn (e : Int) : InT × Int × Unit := (([], [], ()), e, ())
def finB (a : List RdT) (p : List Int × Int) : InT × Int × Unit := if p.2 = 0 then ((a, p.1, ()), 0, ()) else noIn p.2
def finA (p : List RdT × Int) (B : List ByteArray) : InT × Int × Unit := if p.2 = 0 then finB p.1 (getB B []) else noIn p.2
def inputV (s : ByteArray) : InT × Int × Unit := match pst (partsB 32 s) [] [] 0 with
  | (A, B, true, _) => finA (getA A []) B
  | (_, _, false, _) => noIn 2
theorem get_l14 (x5 : List ByteArray) (hW : ∀ w ∈ x5, w.size < 1000000) (hn : x5.length < 1000000) (b2 : InT) (a : List RdT) (d : Nat) : ∀ (i : Nat) (b : List Int), i + d = x5.length → b.length + d ≤ 1000000 →
    Ev (fun k => input_Get.l14 k x5 (x5.length : Int) (i : Int) b2 (a, b, ())) (finB a (getB (x5.drop i) b)) := by
  induction d with
  | zero =>
    intro i b h hb
    refine Ev.step (fun k => by rw [input_Get.l14]) ?_
    refine evn (by omega) ?_
    rw [List.drop_eq_nil_of_le (by omega : x5.length ≤ i), getB, finB, if_pos rfl]
    exact Ev.now _
  | succ d ih =>
    intro i b h hb
    have hi : i < x5.length := by omega
    refine Ev.step (fun k => by rw [input_Get.l14]) ?_
    refine evp (by omega) ?_
    refine evp (by omega) ?_
    refine evp (by omega) ?_
    rw [show ((i : Int)).toNat = i from rfl, getD_n hi, List.drop_eq_getElem_cons hi, getB, w64_succ (by omega)]
    refine Ev.bind (dec_get_ok _ (hW _ (List.getElem_mem hi))) ?_
    by_cases c : (decv (numsOf x5[i])).2 = 0
    · rw [if_pos c]
      refine evp c ?_
      refine evp (by simp only [List.length_cons, List.length_nil]; omega) ?_
      exact ih (i + 1) _ (by omega) (by simp only [List.length_append, List.length_cons, List.length_nil]; omega)
    · rw [if_neg c, finB, if_neg c]
      exact evn c (Ev.now _)
theorem get_l6 (x5 x25 : List ByteArray) (hW : ∀ w ∈ x5, w.size < 1000000) (hn : x5.length < 1000000) (hV : ∀ w ∈ x25, w.size < 1000000) (hm : x25.length < 1000000) (b2 : InT) (d : Nat) : ∀ (i : Nat) (a : List RdT), i + d = x25.length → a.length + d ≤ 1000000 →
    Ev (fun k => input_Get.l6 k x5 x25 (x25.length : Int) (i : Int) b2 (a, [], ())) (finA (getA (x25.drop i) a) x5) := by
  induction d with
  | zero =>
    intro i a h ha
    refine Ev.step (fun k => by rw [input_Get.l6]) ?_
    refine evn (by omega) ?_
    rw [List.drop_eq_nil_of_le (by omega : x25.length ≤ i), getA, finA, if_pos rfl]
    exact get_l14 x5 hW hn b2 a x5.length 0 [] (Nat.zero_add _) (by simp only [List.length_nil]; omega)
  | succ d ih =>
    intro i a h ha
    have hi : i < x25.length := by omega
    refine Ev.step (fun k => by rw [input_Get.l6]) ?_
    refine evp (by omega) ?_
    refine evp (by omega) ?_
    refine evp (by omega) ?_
    rw [show ((i : Int)).toNat = i from rfl, getD_n hi, List.drop_eq_getElem_cons hi, getA, w64_succ (by omega)]
    refine Ev.bind (reading_ok _ (hV _ (List.getElem_mem hi))) ?_
    by_cases c : (readv x25[i]).2.2 = 0
    · rw [if_pos c]
      refine evp c ?_
      refine evp (by simp only [List.length_cons, List.length_nil]; omega) ?_
      exact ih (i + 1) _ (by omega) (by simp only [List.length_append, List.length_cons, List.length_nil]; omega)
    · rw [if_neg c, finA, if_neg c]
      exact evn c (Ev.now _)
theorem pst_mem (W : List ByteArray) : ∀ (a b : List ByteArray) (n : Int), (∀ w ∈ (pst W a b n).1, w ∈ a ∨ w ∈ W) ∧ (∀ w ∈ (pst W a b n).2.1, w ∈ b ∨ w ∈ W) ∧ (pst W a b n).1.length ≤ a.length + W.length ∧ (pst W a b n).2.1.length ≤ b.length + W.length := by
  induction W with
  | nil => intro a b n; rw [pst]; exact ⟨fun w h => .inl h, fun w h => .inl h, Nat.le_refl _, Nat.le_refl _⟩
  | cons x r ih =>
    intro a b n
    rw [pst]
    have up : ∀ {w : ByteArray} {l : List ByteArray}, w ∈ l ∨ w ∈ r → w ∈ l ∨ w ∈ x :: r := fun h => h.imp id (List.mem_cons_of_mem _)
    split
    · obtain ⟨h1, h2, h3, h4⟩ := ih a b (n + 1)
      exact ⟨fun w h => up (h1 w h), fun w h => up (h2 w h), by rw [List.length_cons]; omega, by rw [List.length_cons]; omega⟩
    · split
      · obtain ⟨h1, h2, h3, h4⟩ := ih (a ++ [x]) b n
        rw [List.length_append, List.length_singleton] at h3
        refine ⟨fun w h => ?_, fun w h => up (h2 w h), by rw [List.length_cons]; omega, by rw [List.length_cons]; omega⟩
        rcases h1 w h with q | q
        · rcases List.mem_append.1 q with q | q
          · exact .inl q
          · rw [List.mem_singleton.1 q]; exact .inr List.mem_cons_self
        · exact .inr (List.mem_cons_of_mem _ q)
      · obtain ⟨h1, h2, h3, h4⟩ := ih a (b ++ [x]) n
        rw [List.length_append, List.length_singleton] at h4
        refine ⟨fun w h => up (h1 w h), fun w h => ?_, by rw [List.length_cons]; omega, by rw [List.length_cons]; omega⟩
        rcases h2 w h with q | q
        · rcases List.mem_append.1 q with q | q
          · exact .inl q
          · rw [List.mem_singleton.1 q]; exact .inr List.mem_cons_self
        · exact .inr (List.mem_cons_of_mem _ q)
theorem input_get_ok (s : ByteArray) (hs : s.size < 100000) : Ev (fun k => input_Get.f k s) (inputV s) := by
  have hl : (partsB 32 s).length ≤ s.size + 1 := parts_len
  obtain ⟨h1, h2, h3, h4⟩ := pst_mem (partsB 32 s) [] [] 0
  have small : ∀ w : ByteArray, w ∈ ([] : List ByteArray) ∨ w ∈ partsB 32 s → w.size < 1000000 := fun w h => by
    rcases h with h | h
    · cases h
    · have := parts_size h; omega
  unfold input_Get.f
  refine Ev.bind (parts_ok s hs) ?_
  unfold inputV
  generalize hp : pst (partsB 32 s) [] [] 0 = p at h1 h2 h3 h4 ⊢
  obtain ⟨A, B, t, _⟩ := p
  cases t with
  | false => exact evp rfl (Ev.now _)
  | true =>
    refine evn (by simp) ?_
    exact get_l6 B A (fun w h => small w (h2 w h)) (by simp only [List.length_nil] at h4; omega) (fun w h => small w (h1 w h)) (by simp only [List.length_nil] at h3; omega) _ A.length 0 [] (Nat.zero_add _) (by simp only [List.length_nil] at h3 ⊢; omega)
end Go.Proofs.YtcgdhpnobgimfaaDoor.Num
end
section
namespace Go.Proofs.YtcgdhpnobgimfaaDoor.Num
set_option linter.unusedVariables false
set_option linter.unusedSimpArgs false
open Go.RowKit Go.Proofs.YtcgdhpnobgimfaaDoor.PI Go.Proofs.YtcgdhpnobgimfaaDoorW.PrintWords Go.Proofs.YtcgdhpnobgimfaaDoorW.PrintMore

section
set_option linter.unusedSectionVars false
variable {A B : List ByteArray} (hA : ∀ w ∈ A, w.size ≤ 310) (hB : ∀ w ∈ B, w.size ≤ 310) (hn : A.length + 1 + B.length < 1000000) (b2 : InT)
include hA hB hn
end
/-! ### inputs that are the same -/
theorem getD_r {l : List RdT} {i : Nat} (h : i < l.length) : l.getD i (false, 0, ()) = l[i] := by rw [List.getD_eq_getElem?_getD, List.getElem?_eq_getElem h]; rfl
theorem same35_l4 (x : InT) (h1 : x.1.length < 1000000) (h2 : x.2.1.length ≤ 1000000) (d : Nat) : ∀ i : Nat, i + d = x.1.length → Ev (fun k => regimenref35_Same_s.l4 k (i : Int) x x) true := by
  induction d with
  | zero =>
    intro i h
    refine Ev.step (fun k => by rw [regimenref35_Same_s.l4]) ?_
    refine evn (by omega) ?_
    exact Ev.bind (same1_ok _ h2) (Ev.now _)
  | succ d ih =>
    intro i h
    refine Ev.step (fun k => by rw [regimenref35_Same_s.l4]) ?_
    refine evp (by omega) ?_
    refine evp (by omega) ?_
    refine evp (by omega) ?_
    refine evp (by omega) ?_
    refine evp (by omega) ?_
    refine evn (by simp) ?_
    rw [w64_succ (by omega)]
    exact ih (i + 1) (by omega)
theorem same35_ok (x : InT) (h1 : x.1.length < 1000000) (h2 : x.2.1.length ≤ 1000000) : Ev (fun k => regimenref35_Same_s.f k x x) true := by
  unfold regimenref35_Same_s.f
  refine evp rfl ?_
  exact same35_l4 x h1 h2 x.1.length 0 (Nat.zero_add _)
theorem awake44_ok : Ev (fun k => regimenlaw44_awake.f k) true := Ev.of (fun k => regimenlaw44_awake.mono k) (k := 200) (by decide +kernel)
end Go.Proofs.YtcgdhpnobgimfaaDoor.Num
end
section
namespace Go.Proofs.YtcgdhpnobgimfaaDoor.Num
set_option linter.unusedVariables false
set_option linter.unusedSectionVars false
set_option linter.unusedSimpArgs false
open Go.RowKit Go.Proofs.YtcgdhpnobgimfaaDoor.PI Go.Proofs.YtcgdhpnobgimfaaDoorW.PrintWords Go.Proofs.YtcgdhpnobgimfaaDoorW.PrintMore

noncomputable def rdW (y : RdT) : ByteArray := if y.1 = true then decS y.2.1 else dashB
noncomputable def rdL (R : List RdT) : List ByteArray := R.map rdW
def plainR (y : RdT) : RdT := if y.1 = true then y else (y.1, 0, ())
def catS : List ByteArray → ByteArray
  | [] => ⟨#[]⟩
  | w :: r => w ++ (⟨#[32]⟩ : ByteArray) ++ catS r
noncomputable def inLine (x : InT) : ByteArray := catS (rdL x.1) ++ (barB ++ tailS (decL x.2.1))
/-- Words with a blank between. -/
def joinS : List ByteArray → ByteArray
  | [] => ⟨#[]⟩
  | w :: r => w ++ tailS r
theorem join_cat (B : List ByteArray) (b : ByteArray) : ∀ A : List ByteArray, joinS (A ++ b :: B) = catS A ++ (b ++ tailS B)
  | [] => by rw [List.nil_append, joinS, catS]; exact (ba_ext (by rw [ba_app]; rfl)).symm
  | w :: r => by
    have ih := join_cat B b r
    rw [List.cons_append, joinS, catS, app_assoc, app_assoc, ← ih]
    cases r with
    | nil => rw [List.nil_append, tailS, joinS, app_assoc]
    | cons v r => rw [List.cons_append, tailS, joinS, app_assoc]
theorem joinS_eq {l : List ByteArray} (h : l ≠ []) : (⟨(Lib.join (l.map (·.data.toList)) [32]).toArray⟩ : ByteArray) = joinS l := by
  cases l with
  | nil => exact absurd rfl h
  | cons b l => exact join_tail b l
theorem joinS_size {l : List ByteArray} (h : ∀ b, b ∈ l → b.size ≤ 100) : (joinS l).size ≤ 101 * l.length := by
  cases l with
  | nil => exact Nat.le_refl _
  | cons b l =>
    have h1 := h b List.mem_cons_self
    have h2 := tailS_size fun c hc => h c (List.mem_cons_of_mem _ hc)
    rw [joinS, size_app, List.length_cons]
    omega
theorem sjoin_ok {l : List ByteArray} (h0 : l ≠ []) (hl : l.length ≤ 1000) (h : ∀ b, b ∈ l → b.size ≤ 100) : strings_Join.f l (⟨#[32]⟩ : ByteArray) = some (joinS l) := by
  have e := joinS_eq h0
  have z : (Lib.join (l.map (·.data.toList)) [32]).length = (joinS l).size := by
    rw [← e]
    exact List.size_toArray.symm
  have := joinS_size h
  unfold strings_Join.f
  have e2 : (⟨#[32]⟩ : ByteArray).data.toList = [32] := rfl
  rw [e2, if_pos ⟨by omega, by rw [z]; omega⟩, e]
def okR (y : RdT) : Prop := word' y.2.1
theorem rdW_size {y : RdT} (h : okR y) : (rdW y).size ≤ 100 := by
  unfold rdW
  split
  · exact decS_size h
  · decide
theorem rdL_size {R : List RdT} (h : ∀ y ∈ R, okR y) : ∀ b, b ∈ rdL R → b.size ≤ 100 := fun b hb => by
  obtain ⟨y, hy, rfl⟩ := List.mem_map.1 hb
  exact rdW_size (h y hy)
section
variable (x : InT) (hR : ∀ y ∈ x.1, okR y) (hW : ∀ z ∈ x.2.1, word' z) (h1 : x.1.length ≤ 40) (h2 : x.2.1.length ≤ 40)
include hR hW h1 h2
theorem put_l11 (d : Nat) : ∀ (i : Nat) (acc : List ByteArray), i + d = x.2.1.length → acc ≠ [] → acc.length + d ≤ 1000 → (∀ b, b ∈ acc → b.size ≤ 100) →
    Ev (fun k => input_Put_s.l11 k acc x.2.1 (x.2.1.length : Int) (i : Int)) (joinS (acc ++ decL (x.2.1.drop i))) := by
  induction d with
  | zero =>
    intro i acc h h0 ha hs
    refine Ev.step (fun k => by rw [input_Put_s.l11]) ?_
    refine evn (by omega) ?_
    rw [List.drop_eq_nil_of_le (by omega : x.2.1.length ≤ i)]
    show Ev _ (joinS (acc ++ []))
    rw [List.append_nil]
    exact evs (sjoin_ok h0 (by omega) hs) (Ev.now _)
  | succ d ih =>
    intro i acc h h0 ha hs
    have hi : i < x.2.1.length := by omega
    have hz := hW _ (List.getElem_mem hi)
    refine Ev.step (fun k => by rw [input_Put_s.l11]) ?_
    refine evp (by omega) ?_
    refine evp (by omega) ?_
    refine evp (by omega) ?_
    rw [show ((i : Int)).toNat = i from rfl, getD_get hi, List.drop_eq_getElem_cons hi, w64_succ (by omega)]
    refine Ev.bind (dput_ok hz) ?_
    refine evp (by simp only [List.length_cons, List.length_nil]; omega) ?_
    have := ih (i + 1) (acc ++ [decS x.2.1[i]]) (by omega) (by simp) (by simp only [List.length_append, List.length_cons, List.length_nil]; omega) (fun b hb => by
      rcases List.mem_append.1 hb with q | q
      · exact hs b q
      · rw [List.mem_singleton.1 q]; exact decS_size hz)
    rw [List.append_assoc] at this
    exact this
theorem put_l3 (d : Nat) : ∀ (i : Nat) (acc : List ByteArray), i + d = x.1.length → acc.length + d ≤ 900 → (∀ b, b ∈ acc → b.size ≤ 100) →
    Ev (fun k => input_Put_s.l3 k acc x.1 (x.1.length : Int) (i : Int) x) (joinS (acc ++ rdL (x.1.drop i) ++ barB :: decL x.2.1)) := by
  induction d with
  | zero =>
    intro i acc h ha hs
    refine Ev.step (fun k => by rw [input_Put_s.l3]) ?_
    refine evn (by omega) ?_
    refine evp (by simp only [List.length_cons, List.length_nil]; omega) ?_
    rw [List.drop_eq_nil_of_le (by omega : x.1.length ≤ i)]
    have := put_l11 x hR hW h1 h2 x.2.1.length 0 (acc ++ [barB]) (Nat.zero_add _) (by simp) (by simp only [List.length_append, List.length_cons, List.length_nil]; omega) (fun b hb => by
      rcases List.mem_append.1 hb with q | q
      · exact hs b q
      · rw [List.mem_singleton.1 q]; decide)
    rw [List.append_assoc] at this
    show Ev _ (joinS (acc ++ [] ++ barB :: decL x.2.1))
    rw [List.append_nil]
    exact this
  | succ d ih =>
    intro i acc h ha hs
    have hi : i < x.1.length := by omega
    have hy := hR _ (List.getElem_mem hi)
    refine Ev.step (fun k => by rw [input_Put_s.l3]) ?_
    refine evp (by omega) ?_
    refine evp (by omega) ?_
    refine evp (by omega) ?_
    rw [show ((i : Int)).toNat = i from rfl, getD_r hi, List.drop_eq_getElem_cons hi]
    have go : Ev (fun k => input_Put_s.j8 k (acc ++ [rdW x.1[i]]) x.1 (x.1.length : Int) (i : Int) x) (joinS (acc ++ rdL (x.1[i] :: x.1.drop (i + 1)) ++ barB :: decL x.2.1)) := by
      refine Ev.step (fun k => by rw [input_Put_s.j8]) ?_
      rw [w64_succ (by omega)]
      have := ih (i + 1) (acc ++ [rdW x.1[i]]) (by omega) (by simp only [List.length_append, List.length_cons, List.length_nil]; omega) (fun b hb => by
        rcases List.mem_append.1 hb with q | q
        · exact hs b q
        · rw [List.mem_singleton.1 q]; exact rdW_size hy)
      have e : acc ++ [rdW x.1[i]] ++ rdL (x.1.drop (i + 1)) = acc ++ rdL (x.1[i] :: x.1.drop (i + 1)) := by rw [List.append_assoc]; rfl
      rw [e] at this
      exact this
    cases c : x.1[i].1 with
    | false =>
      have e : rdW x.1[i] = dashB := by unfold rdW; rw [c]; rfl
      rw [e] at go
      refine evp rfl ?_
      refine evp (by simp only [List.length_cons, List.length_nil]; omega) ?_
      exact go
    | true =>
      have e : rdW x.1[i] = decS x.1[i].2.1 := by unfold rdW; rw [if_pos c]
      rw [e] at go
      refine evn (by simp) ?_
      refine Ev.bind (dput_ok hy) ?_
      refine evp (by simp only [List.length_cons, List.length_nil]; omega) ?_
      exact go
theorem input_put_ok : Ev (fun k => input_Put_s.f k x) (inLine x) := by
  unfold input_Put_s.f inLine
  rw [← join_cat]
  have := put_l3 x hR hW h1 h2 x.1.length 0 [] (Nat.zero_add _) (by simp only [List.length_nil]; omega) (fun b hb => by cases hb)
  rw [List.nil_append, List.drop_zero] at this
  exact this
theorem rput_l10 (d : Nat) : ∀ (i : Nat) (acc : ByteArray), i + d = x.2.1.length → acc.size + 101 * d ≤ 100000 →
    Ev (fun k => regimenref44_Put_s.l10 k acc (i : Int) x) (acc ++ tailS (decL (x.2.1.drop i))) := by
  induction d with
  | zero =>
    intro i acc h ha
    refine Ev.step (fun k => by rw [regimenref44_Put_s.l10]) ?_
    refine evn (by omega) ?_
    rw [List.drop_eq_nil_of_le (by omega : x.2.1.length ≤ i)]
    show Ev _ (acc ++ (⟨#[]⟩ : ByteArray))
    rw [app_nil]
    exact Ev.now _
  | succ d ih =>
    intro i acc h ha
    have hi : i < x.2.1.length := by omega
    have hz := hW _ (List.getElem_mem hi)
    have hd := decS_size hz
    have e32 : (⟨#[32]⟩ : ByteArray).size = 1 := rfl
    refine Ev.step (fun k => by rw [regimenref44_Put_s.l10]) ?_
    refine evp (by omega) ?_
    refine evp (by rw [e32]; omega) ?_
    refine evp (by omega) ?_
    refine evp (by omega) ?_
    rw [show ((i : Int)).toNat = i from rfl, getD_get hi, List.drop_eq_getElem_cons hi, w64_succ (by omega)]
    refine Ev.bind (rput_ok hz) ?_
    refine evp (by rw [size_app, e32]; omega) ?_
    have := ih (i + 1) (acc ++ (⟨#[32]⟩ : ByteArray) ++ decS x.2.1[i]) (by omega) (by rw [size_app, size_app, e32]; omega)
    have e : acc ++ (⟨#[32]⟩ : ByteArray) ++ decS x.2.1[i] ++ tailS (decL (x.2.1.drop (i + 1))) = acc ++ tailS (decL (x.2.1[i] :: x.2.1.drop (i + 1))) := by
      show _ = acc ++ tailS (decS x.2.1[i] :: decL (x.2.1.drop (i + 1)))
      rw [tailS]
      simp only [app_assoc]
    rw [e] at this
    exact this
theorem rput_l3 (d : Nat) : ∀ (i : Nat) (acc : ByteArray), i + d = x.1.length → acc.size + 101 * d ≤ 90000 →
    Ev (fun k => regimenref44_Put_s.l3 k acc (i : Int) x) (acc ++ catS (rdL (x.1.drop i)) ++ (barB ++ tailS (decL x.2.1))) := by
  induction d with
  | zero =>
    intro i acc h ha
    have e1 : (⟨#[124]⟩ : ByteArray).size = 1 := rfl
    refine Ev.step (fun k => by rw [regimenref44_Put_s.l3]) ?_
    refine evn (by omega) ?_
    refine evp (by rw [e1]; omega) ?_
    rw [List.drop_eq_nil_of_le (by omega : x.1.length ≤ i)]
    have := rput_l10 x hR hW h1 h2 x.2.1.length 0 (acc ++ barB) (Nat.zero_add _) (by rw [size_app, show barB.size = 1 from rfl]; omega)
    rw [List.drop_zero] at this
    show Ev _ (acc ++ (⟨#[]⟩ : ByteArray) ++ (barB ++ tailS (decL x.2.1)))
    rw [app_nil, ← app_assoc]
    exact this
  | succ d ih =>
    intro i acc h ha
    have hi : i < x.1.length := by omega
    have hy := hR _ (List.getElem_mem hi)
    have hs := rdW_size hy
    have e1 : (⟨#[32]⟩ : ByteArray).size = 1 := rfl
    have e2 : (⟨#[45, 32]⟩ : ByteArray).size = 2 := rfl
    refine Ev.step (fun k => by rw [regimenref44_Put_s.l3]) ?_
    refine evp (by omega) ?_
    refine evp (by omega) ?_
    refine evp (by omega) ?_
    rw [show ((i : Int)).toNat = i from rfl, getD_r hi, List.drop_eq_getElem_cons hi]
    have go : Ev (fun k => regimenref44_Put_s.j4 k (acc ++ rdW x.1[i] ++ (⟨#[32]⟩ : ByteArray)) (i : Int) x) (acc ++ catS (rdL (x.1[i] :: x.1.drop (i + 1))) ++ (barB ++ tailS (decL x.2.1))) := by
      refine Ev.step (fun k => by rw [regimenref44_Put_s.j4]) ?_
      rw [w64_succ (by omega)]
      have := ih (i + 1) (acc ++ rdW x.1[i] ++ (⟨#[32]⟩ : ByteArray)) (by omega) (by rw [size_app, size_app, e1]; omega)
      have e : acc ++ rdW x.1[i] ++ (⟨#[32]⟩ : ByteArray) ++ catS (rdL (x.1.drop (i + 1))) = acc ++ catS (rdL (x.1[i] :: x.1.drop (i + 1))) := by
        show _ = acc ++ catS (rdW x.1[i] :: rdL (x.1.drop (i + 1)))
        rw [catS]
        simp only [app_assoc]
      rw [e] at this
      exact this
    cases c : x.1[i].1 with
    | true =>
      have e : rdW x.1[i] = decS x.1[i].2.1 := by unfold rdW; rw [if_pos c]
      rw [e] at go hs
      refine evp rfl ?_
      refine evp (by omega) ?_
      refine evp (by omega) ?_
      refine Ev.bind (rput_ok hy) ?_
      refine evp (by omega) ?_
      refine evp (by rw [size_app, e1]; omega) ?_
      exact go
    | false =>
      have e : rdW x.1[i] = dashB := by unfold rdW; rw [c]; rfl
      rw [e, app_assoc, show dashB ++ (⟨#[32]⟩ : ByteArray) = ⟨#[45, 32]⟩ from by decide +kernel] at go
      refine evn (by simp) ?_
      refine evp (by rw [e2]; omega) ?_
      exact go
theorem ref_input_put_ok : Ev (fun k => regimenref44_Put_s.f k x) (inLine x) := by
  unfold regimenref44_Put_s.f inLine
  have := rput_l3 x hR hW h1 h2 x.1.length 0 ⟨#[]⟩ (Nat.zero_add _) (by show 0 + _ ≤ _; omega)
  rw [List.drop_zero] at this
  have e : ∀ b : ByteArray, (⟨#[]⟩ : ByteArray) ++ b = b := fun b => ba_ext (by rw [ba_app]; rfl)
  rw [e] at this
  exact this
theorem plain_l3 (b2 : InT) (d : Nat) : ∀ (i : Nat) (acc : List RdT), i + d = x.1.length → acc.length + d ≤ 1000 →
    Ev (fun k => regimenref44_Plain_s.l3 k (i : Int) x b2 (acc, x.2.1, ())) (acc ++ (x.1.drop i).map plainR, x.2.1, ()) := by
  induction d with
  | zero =>
    intro i acc h ha
    refine Ev.step (fun k => by rw [regimenref44_Plain_s.l3]) ?_
    refine evn (by omega) ?_
    rw [List.drop_eq_nil_of_le (by omega : x.1.length ≤ i), List.map_nil, List.append_nil]
    exact Ev.now _
  | succ d ih =>
    intro i acc h ha
    have hi : i < x.1.length := by omega
    refine Ev.step (fun k => by rw [regimenref44_Plain_s.l3]) ?_
    refine evp (by omega) ?_
    refine evp (by omega) ?_
    refine evp (by omega) ?_
    rw [show ((i : Int)).toNat = i from rfl, getD_r hi, List.drop_eq_getElem_cons hi, List.map_cons]
    have go : Ev (fun k => regimenref44_Plain_s.j8 k (i : Int) x b2 (acc, x.2.1, ()) (plainR x.1[i])) (acc ++ plainR x.1[i] :: (x.1.drop (i + 1)).map plainR, x.2.1, ()) := by
      refine Ev.step (fun k => by rw [regimenref44_Plain_s.j8]) ?_
      refine evp (by simp only [List.length_cons, List.length_nil]; omega) ?_
      refine Ev.step (fun k => by rw [regimenref44_Plain_s.j4]) ?_
      rw [w64_succ (by omega)]
      have := ih (i + 1) (acc ++ [plainR x.1[i]]) (by omega) (by simp only [List.length_append, List.length_cons, List.length_nil]; omega)
      rw [List.append_assoc] at this
      exact this
    cases c : x.1[i].1 with
    | false =>
      have e : plainR x.1[i] = (x.1[i].1, 0, ()) := by unfold plainR; rw [c]; rfl
      rw [e, c] at go
      refine evp rfl ?_
      rw [e, c]
      exact go
    | true =>
      have e : plainR x.1[i] = x.1[i] := by unfold plainR; rw [if_pos c]
      rw [e] at go
      refine evn (by simp) ?_
      rw [e]
      exact go
theorem plain_ok : Ev (fun k => regimenref44_Plain_s.f k x) (x.1.map plainR, x.2.1, ()) := by
  unfold regimenref44_Plain_s.f
  have := plain_l3 x hR hW h1 h2 ([], [], ()) x.1.length 0 [] (Nat.zero_add _) (by simp only [List.length_nil]; omega)
  rw [List.drop_zero, List.nil_append] at this
  exact this
end
/-! ### the line is read as the input -/
theorem dash_free : (32 : Int) ∉ numsOf dashB := by decide +kernel
theorem bar_free : (32 : Int) ∉ numsOf barB := by decide +kernel
theorem decS_free {x : Int} (h : word' x) : (32 : Int) ∉ numsOf (decS x) := decL_free (l := [x]) (fun y hy => by rw [List.mem_singleton.1 hy]; exact h) _ (by simp [decL])
theorem bar_dec : (decv (numsOf barB)).2 ≠ 0 := by decide +kernel
theorem dash_dec : (decv (numsOf dashB)).2 ≠ 0 := by decide +kernel
theorem decS_ne {x : Int} (h : word' x) : decS x ≠ barB ∧ decS x ≠ dashB := by
  have e := decv_decS h
  exact ⟨fun q => bar_dec (by rw [← q, e]), fun q => dash_dec (by rw [← q, e])⟩
theorem rdW_free {y : RdT} (h : okR y) : (32 : Int) ∉ numsOf (rdW y) ∧ rdW y ≠ barB := by
  unfold rdW
  split
  · exact ⟨decS_free h, (decS_ne h).1⟩
  · exact ⟨dash_free, by decide +kernel⟩
theorem parts_line {l : List ByteArray} (h0 : l ≠ []) (h : ∀ w ∈ l, (32 : Int) ∉ numsOf w) : partsB 32 (joinS l) = l := by
  cases l with
  | nil => exact absurd rfl h0
  | cons b l => exact words_of b l h
theorem getA_back {R : List RdT} (h : ∀ y ∈ R, okR y) : ∀ a : List RdT, getA (rdL R) a = (a ++ R.map plainR, 0) := by
  induction R with
  | nil => intro a; rw [List.map_nil, List.append_nil]; rfl
  | cons y R ih =>
    intro a
    have ih := ih fun z hz => h z (List.mem_cons_of_mem _ hz)
    show getA (rdW y :: rdL R) a = _
    have hy : word' y.2.1 := h y List.mem_cons_self
    have e : readv (rdW y) = ((plainR y).1, (plainR y).2.1, 0) := by
      obtain ⟨t, v, _⟩ := y
      cases t with
      | true =>
        have e1 : rdW (true, v, ()) = decS v := rfl
        have e2 : plainR (true, v, ()) = (true, v, ()) := rfl
        rw [e1, e2]
        unfold readv
        rw [if_neg (decS_ne hy).2, decv_decS hy]
      | false => rfl
    rw [getA, e, if_pos rfl, ih, List.append_assoc]
    rfl
theorem getB_back {W : List Int} (h : ∀ z ∈ W, word' z) : ∀ b : List Int, getB (decL W) b = (b ++ W, 0) := by
  induction W with
  | nil => intro b; rw [List.append_nil]; rfl
  | cons z W ih =>
    intro b
    have ih := ih fun y hy => h y (List.mem_cons_of_mem _ hy)
    show getB (decS z :: decL W) b = _
    rw [getB, decv_decS (h z List.mem_cons_self), if_pos rfl, ih, List.append_assoc]
    rfl
theorem bar_not_dec {W : List Int} (h : ∀ z ∈ W, word' z) : barB ∉ decL W := fun q => by
  obtain ⟨z, hz, e⟩ := List.mem_map.1 q
  exact (decS_ne (h z hz)).1 e
theorem line_back (x : InT) (hR : ∀ y ∈ x.1, okR y) (hW : ∀ z ∈ x.2.1, word' z) : inputV (inLine x) = ((x.1.map plainR, x.2.1, ()), 0, ()) := by
  have hp : partsB 32 (inLine x) = rdL x.1 ++ barB :: decL x.2.1 := by
    unfold inLine
    rw [← join_cat]
    refine parts_line (by simp) fun w hw => ?_
    rcases List.mem_append.1 hw with q | q
    · obtain ⟨y, hy, rfl⟩ := List.mem_map.1 q
      exact (rdW_free (hR y hy)).1
    · rcases List.mem_cons.1 q with rfl | q
      · exact bar_free
      · exact decL_free hW w q
  have hA : barB ∉ rdL x.1 := fun q => by
    obtain ⟨y, hy, e⟩ := List.mem_map.1 q
    exact (rdW_free (hR y hy)).2 e
  unfold inputV
  rw [hp, pst_one hA (bar_not_dec hW)]
  show finA (getA ([] ++ rdL x.1) []) (decL x.2.1) = _
  rw [List.nil_append, getA_back hR, finA, if_pos rfl, getB_back hW, finB, if_pos rfl]
  rfl
theorem inLine_size (x : InT) (hR : ∀ y ∈ x.1, okR y) (hW : ∀ z ∈ x.2.1, word' z) (h1 : x.1.length ≤ 40) (h2 : x.2.1.length ≤ 40) : (inLine x).size < 100000 := by
  unfold inLine
  rw [← join_cat]
  have := joinS_size (l := rdL x.1 ++ barB :: decL x.2.1) fun b hb => by
    rcases List.mem_append.1 hb with q | q
    · exact rdL_size hR b q
    · rcases List.mem_cons.1 q with rfl | q
      · decide
      · exact decL_size hW b q
  have e1 : (rdL x.1).length = x.1.length := List.length_map _
  have e2 := decL_len x.2.1
  rw [List.length_append, List.length_cons, e1, e2] at this
  omega
end Go.Proofs.YtcgdhpnobgimfaaDoor.Num
end
section
namespace Go.Proofs.YtcgdhpnobgimfaaDoor.Num
set_option linter.unusedVariables false
open Go.RowKit Go.Proofs.YtcgdhpnobgimfaaDoor.PI Go.Proofs.YtcgdhpnobgimfaaDoorW.PrintWords Go.Proofs.YtcgdhpnobgimfaaDoorW.PrintMore Go.Sym

theorem input_puts_ok (x : InT) (hR : ∀ y ∈ x.1, okR y) (hW : ∀ z ∈ x.2.1, word' z) : Ev (fun k => regimenlaw44_InputPuts.f k x) true := by
  unfold regimenlaw44_InputPuts.f
  by_cases c1 : x.1.length ≤ 40
  · refine evn (by omega) ?_
    by_cases c2 : x.2.1.length ≤ 40
    · refine evn (by omega) ?_
      refine Ev.bind (input_put_ok x hR hW c1 c2) ?_
      refine Ev.bind (input_get_ok _ (inLine_size x hR hW c1 c2)) ?_
      refine Ev.bind (ref_input_put_ok x hR hW c1 c2) ?_
      refine evp rfl ?_
      rw [line_back x hR hW]
      refine evp rfl ?_
      refine Ev.bind (plain_ok x hR hW c1 c2) ?_
      refine Ev.bind (same35_ok _ (by show (x.1.map plainR).length < _; rw [List.length_map]; omega) (by show x.2.1.length ≤ _; omega)) ?_
      refine evp rfl ?_
      exact Ev.bind awake44_ok (Ev.now _)
    · refine evp (by omega) ?_
      exact Ev.bind awake44_ok (Ev.now _)
  · refine evp (by omega) ?_
    exact Ev.bind awake44_ok (Ev.now _)
end Go.Proofs.YtcgdhpnobgimfaaDoor.Num
namespace Go.Proofs.YtcgdhpnobgimfaaDoor
set_option linter.unusedVariables false
open Go.Sym Go.Proofs.YtcgdhpnobgimfaaDoor.Num Go.Proofs.YtcgdhpnobgimfaaDoor.PI
theorem Pure.InputPuts (y0 : El (.cons (.sl (.cons .bool (.cons (.int .i64) .nil))) (.cons (.sl (.int .i64)) .nil))) (w0 : Wf (.cons (.sl (.cons .bool (.cons (.int .i64) .nil))) (.cons (.sl (.int .i64)) .nil)) y0) : ∃ k, regimenlaw44_InputPuts.c.fn k (y0, ()) = some true := by
  obtain ⟨K, h⟩ := input_puts_ok y0 (fun y hy => i64_wf (w0.1.2 y hy).2.1) (fun z hz => i64_wf (w0.2.1.2 z hz))
  exact ⟨K, h K (Nat.le_refl _)⟩
end Go.Proofs.YtcgdhpnobgimfaaDoor
end
