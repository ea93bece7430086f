/- Events' lines (layer 36): the program's and the reference's, by value. -/
import Derived.Test.YtcgdhpnobgimfaaPEx0
import Derived.Test.YtcgdhpnobgimfaaPEx2
import Derived.Test.YtcgdhpnobgimfaaPEx3
import Derived.Test.YtcgdhpnobgimfaaPEx6
import Derived.Test.YtcgdhpnobgimfaaENumRef
import Derived.Test.YtcgdhpnobgimfaaECut
namespace Go.Proofs.Ytcgdhpnobgimfaa.Num
set_option linter.unusedVariables false
set_option linter.unusedSimpArgs false
open Go.RowKit Go.Proofs.Ytcgdhpnobgimfaa.PE Go.Proofs.YtcgdhpnobgimfaaW.PrintWords Go.Proofs.YtcgdhpnobgimfaaW.PrintMore

theorem tellv_size {n : Int} (h : -9223372036854775808 ≤ n ∧ n < 9223372036854775808) : (tellv n).size ≤ 21 := by
  unfold tellv
  split
  · obtain ⟨m, e, l0, l1, _⟩ := dig_props 19 (-n) [] (by omega) (by have := p20; omega)
    rw [strOfNums_size, List.length_cons, e, List.append_nil]
    omega
  · obtain ⟨m, e, l0, l1, _⟩ := dig_props 19 n [] (by omega) (by have := p20; omega)
    rw [strOfNums_size, e, List.append_nil]
    omega
/-- Any number's digits, as bytes. -/
def telll (n : Int) : List Int := if n < 0 then 45 :: dig 20 (-n) [] else dig 20 n []
theorem tellv_telll (n : Int) : tellv n = strOfNums (telll n) := by
  unfold tellv telll
  split <;> rfl
theorem telll_byte {n : Int} (h : -9223372036854775808 ≤ n ∧ n < 9223372036854775808) : numsOf (tellv n) = telll n ∧ ∀ x, x ∈ telll n → x = 45 ∨ isDig x := by
  have key : ∀ u : Int, 0 ≤ u → u ≤ 9223372036854775808 → ∀ x, x ∈ dig 20 u [] → isDig x := by
    intro u h0 h1
    obtain ⟨m, e, l0, l1, hd, _⟩ := dig_props 19 u [] h0 (by have := p20; omega)
    rw [e, List.append_nil]
    exact hd
  have a : ∀ x, x ∈ telll n → x = 45 ∨ isDig x := by
    unfold telll
    split
    · intro x hx
      rcases List.mem_cons.1 hx with q | q
      · exact .inl q
      · exact .inr (key _ (by omega) (by omega) x q)
    · intro x hx
      exact .inr (key _ (by omega) (by omega) x hx)
  refine ⟨?_, a⟩
  rw [tellv_telll]
  refine nums_str fun x hx => ?_
  rcases a x hx with q | q
  · omega
  · unfold isDig at q
    omega
theorem telll_get {n : Int} (h : -9223372036854775808 ≤ n ∧ n < 9223372036854775808) : (n < 0 ∨ n > 1099511627776 → (getv (telll n)).2 ≠ 0) ∧ (¬ (n < 0 ∨ n > 1099511627776) → getv (telll n) = (n, 0)) := by
  constructor
  · rintro q e
    obtain ⟨b, _, v1, v0, hd⟩ := get_back e
    unfold telll at *
    by_cases c : n < 0
    · rw [if_pos c] at b
      exact b (.inr (.inl (by
        rw [show lead (45 :: dig 20 (-n) []) = 0 from if_neg (by unfold isDig; omega)]
        simp)))
    · rw [if_neg c] at v1
      obtain ⟨m, e, l0, l1, hd, hv, _⟩ := dig_props 19 n [] (by omega) (by have := p20; omega)
      rw [e, List.append_nil, hv] at v1
      omega
  · intro q
    unfold telll
    rw [if_neg (by omega)]
    exact (get_of (u := n) (by omega) (by omega)).1
def wordsL : List ByteArray := regimenref36_Words.f.getD []
/-- A kind's word. -/
def word (k : Int) : ByteArray := if 0 ≤ k ∧ k < 12 then rdOf ByteArray.empty wordsL k else ⟨#[]⟩
theorem words_ok : regimenref36_Words.f = some wordsL := rfl
theorem words_len : (wordsL.length : Int) = 12 := rfl
theorem word_ok36 (k : Int) : events_Word.f k = some (word k) := by
  unfold events_Word.f word
  split <;> rfl
theorem word_rd {k : Int} (h0 : 0 ≤ k) (h1 : k < 12) : rdOf ByteArray.empty wordsL k = word k := (if_pos ⟨h0, h1⟩).symm
theorem word_nat : ∀ i : Nat, i < 12 → (numsOf (word i)).length ≤ 6 ∧ 32 ∉ numsOf (word i) ∧ numsOf (word i) ≠ [63] ∧ (i = 0 ↔ numsOf (word i) = []) := by decide +kernel
theorem word_nat2 : ∀ i : Nat, i < 12 → ∀ j : Nat, j < 12 → numsOf (word i) = numsOf (word j) → i = j := by decide +kernel
theorem word_all (k : Int) : (word k).size ≤ 6 ∧ 32 ∉ numsOf (word k) ∧ ((word k).toList = ([] : List UInt8) ↔ ¬ (1 ≤ k ∧ k ≤ 11)) := by
  rw [toList_nil, ← nums_len]
  by_cases c : 0 ≤ k ∧ k < 12
  · obtain ⟨i, rfl⟩ : ∃ i : Nat, k = (i : Int) := ⟨k.toNat, by omega⟩
    have w := word_nat i (by omega)
    refine ⟨w.1, w.2.1, ?_⟩
    rw [← w.2.2.2]
    omega
  · have e : word k = ⟨#[]⟩ := if_neg c
    rw [e]
    refine ⟨by decide, by decide, ?_⟩
    simp only [show numsOf (⟨#[]⟩ : ByteArray) = [] from rfl, true_iff]
    omega
/-- An event's line. -/
def headW (k : Int) : ByteArray := if 1 ≤ k ∧ k ≤ 11 then word k else ⟨#[63]⟩
def lineV (k n : Int) : ByteArray := headW k ++ (⟨#[32]⟩ : ByteArray) ++ tellv n
theorem headW_all (k : Int) : (headW k).size ≤ 6 ∧ 32 ∉ numsOf (headW k) := by
  unfold headW
  split
  · exact ⟨(word_all k).1, (word_all k).2.1⟩
  · exact ⟨by decide, by decide⟩
theorem size_app (a b : ByteArray) : (a ++ b).size = a.size + b.size := ByteArray.size_append
theorem line_nums {k n : Int} (h : -9223372036854775808 ≤ n ∧ n < 9223372036854775808) : numsOf (lineV k n) = numsOf (headW k) ++ 32 :: telll n := by
  unfold lineV
  rw [nums_app, nums_app, (telll_byte h).1, nums_one, List.append_assoc]
  rfl
theorem line_size {k n : Int} (h : -9223372036854775808 ≤ n ∧ n < 9223372036854775808) : (lineV k n).size ≤ 28 := by
  unfold lineV
  rw [size_app, size_app]
  have := (headW_all k).1
  have := tellv_size h
  have e : (⟨#[32]⟩ : ByteArray).size = 1 := rfl
  omega
theorem line_ok (s k : Int) {n : Int} (h : -9223372036854775808 ≤ n ∧ n < 9223372036854775808) : Ev (fun q => events_Line.f q s k n) (lineV k n) := by
  have w := word_all k
  have t := tellv_size h
  have e : (⟨#[32]⟩ : ByteArray).size = 1 := rfl
  unfold events_Line.f lineV headW
  refine evs (word_ok36 k) ?_
  by_cases c : 1 ≤ k ∧ k ≤ 11
  · rw [if_pos c]
    refine evn (fun q => w.2.2.1 q c) ?_
    refine evp (by omega) ?_
    refine Ev.bind (tell_ok h) ?_
    refine evp (by rw [size_app]; omega) ?_
    exact Ev.now _
  · rw [if_neg c]
    refine evp (w.2.2.2 c) ?_
    refine evp (by omega) ?_
    refine Ev.bind (tell_ok h) ?_
    refine evp (by rw [size_app]; have e2 : (⟨#[63]⟩ : ByteArray).size = 1 := rfl; omega) ?_
    exact Ev.now _
theorem ref_line_ok (s k : Int) {n : Int} (h : -9223372036854775808 ≤ n ∧ n < 9223372036854775808) : Ev (fun q => regimenref36_Line.f q s k n) (lineV k n) := by
  have w := word_all k
  have t := tellv_size h
  have e : (⟨#[32]⟩ : ByteArray).size = 1 := rfl
  have j : ∀ b : Bool, (b = true ↔ (1 ≤ k ∧ k ≤ 11)) → Ev (fun q => regimenref36_Line.j0 q (⟨#[63]⟩ : ByteArray) b s k n) (lineV k n) := by
    intro b hb
    refine Ev.step (fun q => by rw [regimenref36_Line.j0]) ?_
    unfold lineV headW
    by_cases c : b = true
    · have c2 := hb.1 c
      rw [if_pos c2]
      refine evp c ?_
      refine evs words_ok ?_
      refine evp (by omega) ?_
      refine evp (by rw [words_len]; omega) ?_
      rw [word_rd (by omega) (by omega)]
      refine evp (by omega) ?_
      refine Ev.bind (ref_tell_ok h) ?_
      refine evp (by rw [size_app]; omega) ?_
      exact Ev.now _
    · rw [if_neg (fun q => c (hb.2 q))]
      refine evn c ?_
      have e2 : (⟨#[63]⟩ : ByteArray).size = 1 := rfl
      refine evp (by omega) ?_
      refine Ev.bind (ref_tell_ok h) ?_
      refine evp (by rw [size_app]; omega) ?_
      exact Ev.now _
  unfold regimenref36_Line.f
  by_cases c : k ≥ 1
  · refine evp c (j _ ?_)
    rw [decide_eq_true_eq]
    omega
  · refine evn c (j _ ?_)
    simp only [Bool.false_eq_true, false_iff]
    omega
/-! ### Which event a line is -/
def findW (a : List Int) : Nat → Nat → Option Nat
  | 0, _ => none
  | d + 1, i => if numsOf (word i) = a then some i else findW a d (i + 1)
/-- What a line comes to, from the kind i on. -/
def parsed (step : Int) (l : List Int) (d i : Nat) : Int × Int × Int × Bool :=
  if 32 ∈ l ∧ (getv (l.drop ((bef 32 l).length + 1))).2 = 0 then
    (match findW (bef 32 l) d i with
      | some j => (step, (j : Int), (getv (l.drop ((bef 32 l).length + 1))).1, true)
      | none => (0, 0, 0, false))
  else (0, 0, 0, false)
theorem parse_loop (step n : Int) (a : ByteArray) (d : Nat) : ∀ i : Nat, i + d = 12 → Ev (fun q => events_Parse.l0 q step a n (i : Int)) (match findW (numsOf a) d i with | some j => (step, (j : Int), n, true) | none => (0, 0, 0, false)) := by
  induction d with
  | zero =>
    intro i h
    refine Ev.step (fun q => by rw [events_Parse.l0]) ?_
    exact evn (by omega) (Ev.now _)
  | succ d ih =>
    intro i h
    refine Ev.step (fun q => by rw [events_Parse.l0]) ?_
    refine evp (by omega) ?_
    refine evs (word_ok36 _) ?_
    by_cases c : numsOf (word i) = numsOf a
    · rw [show findW (numsOf a) (d + 1) i = some i from if_pos c]
      exact evp ((tl_eq _ _).2 (nums_inj c)) (Ev.now _)
    · rw [show findW (numsOf a) (d + 1) i = findW (numsOf a) d (i + 1) from if_neg c]
      refine evn (fun q => c (by rw [(tl_eq _ _).1 q])) ?_
      rw [w64_succ (by omega)]
      exact ih (i + 1) (by omega)
theorem parse_ok (step : Int) (s : ByteArray) (hs : s.size < 1000000) : Ev (fun q => events_Parse.f q step s) (parsed step (numsOf s) 11 1) := by
  have hl := nums_len s
  have hb := nums_byte s
  unfold events_Parse.f parsed
  refine evs (cut_ok s hs 32) ?_
  rw [show ((32 : UInt8).toNat : Int) = 32 from rfl]
  by_cases m : 32 ∈ numsOf s
  · have lt := bef_le m
    have hA : numsOf (strOfNums (bef 32 (numsOf s))) = bef 32 (numsOf s) := nums_str fun x hx => hb x (by
      rw [← bef_take m] at hx
      exact List.mem_of_mem_take hx)
    have hR : numsOf (strOfNums ((numsOf s).drop ((bef 32 (numsOf s)).length + 1))) = (numsOf s).drop ((bef 32 (numsOf s)).length + 1) := nums_str fun x hx => hb x (List.mem_of_mem_drop hx)
    have g := get_ok (strOfNums ((numsOf s).drop ((bef 32 (numsOf s)).length + 1))) (by rw [strOfNums_size, List.length_drop]; omega)
    rw [hR] at g
    rw [if_pos m]
    refine Ev.bind g ?_
    refine evp rfl ?_
    refine Ev.step (fun q => by rw [events_Parse.j0]) ?_
    by_cases z : (getv ((numsOf s).drop ((bef 32 (numsOf s)).length + 1))).2 = 0
    · rw [if_pos ⟨m, z⟩]
      refine evn (by rw [bne_iff_ne]; exact fun q => q z) ?_
      have p := parse_loop step (getv ((numsOf s).drop ((bef 32 (numsOf s)).length + 1))).1 (strOfNums (bef 32 (numsOf s))) 11 1 (by omega)
      rw [hA] at p
      exact p
    · rw [if_neg (fun q => z q.2)]
      exact evp (by rw [bne_iff_ne]; exact z) (Ev.now _)
  · rw [if_neg m, if_neg (fun q => m q.1)]
    refine Ev.bind (get_ok _ (show (0 : Nat) < 1000000 by decide)) ?_
    refine evn (by simp) ?_
    refine Ev.step (fun q => by rw [events_Parse.j0]) ?_
    exact evp rfl (Ev.now _)
theorem pre_iff {w l : List Int} {c : Int} (hw : c ∉ w) (hl : w.length + 1 ≤ l.length) : l.take (w.length + 1) = w ++ [c] ↔ c ∈ l ∧ w = bef c l := by
  constructor
  · intro h
    have e : l = w ++ c :: l.drop (w.length + 1) := by
      conv => lhs; rw [← List.take_append_drop (w.length + 1) l, h]
      rw [List.append_assoc]
      rfl
    refine ⟨by rw [e]; simp, ?_⟩
    conv => rhs; rw [e]
    exact (bef_of hw).symm
  · rintro ⟨m, e⟩
    have h := (bef_some m).1
    rw [← e] at h
    conv => lhs; rw [h]
    rw [List.take_append, List.take_of_length_le (by omega), show w.length + 1 - w.length = 1 from by omega]
    rfl
theorem ref_parse_loop (step : Int) (s : ByteArray) (hs : s.size < 1000000) (d : Nat) : ∀ i : Nat, i + d = 12 → Ev (fun q => regimenref36_Parse.l0 q step s (i : Int)) (parsed step (numsOf s) d i) := by
  have hl := nums_len s
  induction d with
  | zero =>
    intro i h
    refine Ev.step (fun q => by rw [regimenref36_Parse.l0]) ?_
    refine evn (by omega) ?_
    have e : parsed step (numsOf s) 0 i = (0, 0, 0, false) := by
      unfold parsed
      split <;> rfl
    rw [e]
    exact Ev.now _
  | succ d ih =>
    intro i h
    have w := word_nat i (by omega)
    have wl := nums_len (word i)
    have e1 : (⟨#[32]⟩ : ByteArray).size = 1 := rfl
    have es : (word i ++ (⟨#[32]⟩ : ByteArray)).size = (numsOf (word i)).length + 1 := by rw [size_app, wl, e1]
    have nx := ih (i + 1) (by omega)
    have jn : (¬ (32 ∈ numsOf s ∧ numsOf (word i) = bef 32 (numsOf s))) → Ev (fun q => regimenref36_Parse.l0 q step s ((i + 1 : Nat) : Int)) (parsed step (numsOf s) (d + 1) i) := by
      intro hn
      have e : parsed step (numsOf s) (d + 1) i = parsed step (numsOf s) d (i + 1) := by
        unfold parsed
        by_cases m : 32 ∈ numsOf s
        · rw [show findW (bef 32 (numsOf s)) (d + 1) i = findW (bef 32 (numsOf s)) d (i + 1) from if_neg (fun q => hn ⟨m, q⟩)]
        · rw [if_neg (fun q => m q.1), if_neg (fun q => m q.1)]
      rw [e]
      exact nx
    refine Ev.step (fun q => by rw [regimenref36_Parse.l0]) ?_
    refine evp (by omega) ?_
    refine evs words_ok ?_
    refine evp (by omega) ?_
    refine evp (by rw [words_len]; omega) ?_
    rw [word_rd (by omega) (by omega)]
    refine evp (by omega) ?_
    by_cases c : (s.size : Int) < ((word (i : Int)).size : Int) + 1
    · refine evp c ?_
      refine Ev.step (fun q => by rw [regimenref36_Parse.j1]) ?_
      refine evp rfl ?_
      rw [w64_succ (by omega)]
      refine jn ?_
      rintro ⟨m, e⟩
      have := bef_le m
      rw [← e] at this
      omega
    · refine evn c ?_
      refine evp (by omega) ?_
      refine evp (by omega) ?_
      refine Ev.step (fun q => by rw [regimenref36_Parse.j1]) ?_
      have en : (((word (i : Int)).size : Int) + 1).toNat = (numsOf (word i)).length + 1 := by omega
      have px : (s.extract 0 (((word (i : Int)).size : Int) + 1).toNat).toList = (word (i : Int) ++ (⟨#[32]⟩ : ByteArray)).toList ↔ (32 ∈ numsOf s ∧ numsOf (word i) = bef 32 (numsOf s)) := by
        rw [tl_eq, ← pre_iff w.2.1 (by omega), en]
        constructor
        · intro q
          have q2 := congrArg numsOf q
          rw [nums_take, nums_app, nums_one] at q2
          exact q2
        · intro q
          refine nums_inj ?_
          rw [nums_take, nums_app, nums_one]
          exact q
      by_cases q : 32 ∈ numsOf s ∧ numsOf (word i) = bef 32 (numsOf s)
      · refine evn (by rw [bne_iff_ne]; exact fun z => z (px.2 q)) ?_
        refine evp (by omega) ?_
        refine evp (by omega) ?_
        have hR : numsOf (s.extract (((word (i : Int) ++ (⟨#[32]⟩ : ByteArray)).size : Int)).toNat s.size) = (numsOf s).drop ((bef 32 (numsOf s)).length + 1) := by rw [nums_drop, Int.toNat_natCast, es, q.2]
        have g := ref_get_ok (s.extract (((word (i : Int) ++ (⟨#[32]⟩ : ByteArray)).size : Int)).toNat s.size) (by rw [← nums_len, hR, List.length_drop]; omega)
        rw [hR] at g
        refine Ev.bind g ?_
        by_cases z : (getv ((numsOf s).drop ((bef 32 (numsOf s)).length + 1))).2 = 0
        · refine evp z ?_
          have e : parsed step (numsOf s) (d + 1) i = (step, (i : Int), (getv ((numsOf s).drop ((bef 32 (numsOf s)).length + 1))).1, true) := by
            unfold parsed
            rw [if_pos ⟨q.1, z⟩, show findW (bef 32 (numsOf s)) (d + 1) i = some i from if_pos q.2]
          rw [e]
          exact Ev.now _
        · refine evn z ?_
          rw [w64_succ (by omega)]
          have e : parsed step (numsOf s) (d + 1) i = parsed step (numsOf s) d (i + 1) := by
            unfold parsed
            rw [if_neg (fun y => z y.2), if_neg (fun y => z y.2)]
          rw [e]
          exact nx
      · refine evp (by rw [bne_iff_ne]; exact fun z => q (px.1 z)) ?_
        rw [w64_succ (by omega)]
        exact jn q
theorem ref_parse_ok (step : Int) (s : ByteArray) (hs : s.size < 1000000) : Ev (fun q => regimenref36_Parse.f q step s) (parsed step (numsOf s) 11 1) := by
  unfold regimenref36_Parse.f
  exact ref_parse_loop step s hs 11 1 (by omega)
theorem find_some {a : List Int} (d : Nat) : ∀ (i j : Nat), findW a d i = some j → i ≤ j ∧ j < i + d ∧ numsOf (word j) = a := by
  induction d with
  | zero =>
    intro i j h
    cases h
  | succ d ih =>
    intro i j h
    by_cases c : numsOf (word i) = a
    · rw [show findW a (d + 1) i = some i from if_pos c] at h
      cases h
      exact ⟨Nat.le_refl _, by omega, c⟩
    · rw [show findW a (d + 1) i = findW a d (i + 1) from if_neg c] at h
      have := ih _ _ h
      exact ⟨by omega, by omega, this.2.2⟩
theorem find_none {a : List Int} (d : Nat) : ∀ (i : Nat), findW a d i = none → ∀ j, i ≤ j → j < i + d → numsOf (word j) ≠ a := by
  induction d with
  | zero =>
    intro i h j h0 h1
    omega
  | succ d ih =>
    intro i h j h0 h1
    by_cases c : numsOf (word i) = a
    · rw [show findW a (d + 1) i = some i from if_pos c] at h
      cases h
    · rw [show findW a (d + 1) i = findW a d (i + 1) from if_neg c] at h
      rcases Nat.lt_or_ge i j with q | q
      · exact ih _ h j (by omega) (by omega)
      · obtain rfl : i = j := by omega
        exact c
/-- What an event's own line comes to. -/
theorem parsed_line (s k : Int) {n : Int} (h : -9223372036854775808 ≤ n ∧ n < 9223372036854775808) : parsed s (numsOf (lineV k n)) 11 1 = if (1 ≤ k ∧ k ≤ 11) ∧ ¬ (n < 0 ∨ n > 1099511627776) then (s, k, n, true) else (0, 0, 0, false) := by
  have hw := (headW_all k).2
  rw [line_nums h]
  unfold parsed
  have hb : bef 32 (numsOf (headW k) ++ 32 :: telll n) = numsOf (headW k) := bef_of hw
  have hd : (numsOf (headW k) ++ 32 :: telll n).drop ((numsOf (headW k)).length + 1) = telll n := by
    rw [← List.drop_drop, List.drop_left]
    rfl
  rw [hb, hd]
  have g := telll_get h
  by_cases c : n < 0 ∨ n > 1099511627776
  · rw [if_neg (fun q => g.1 c q.2), if_neg (fun q => q.2 c)]
  · rw [g.2 c, if_pos ⟨by simp, rfl⟩]
    by_cases d : 1 ≤ k ∧ k ≤ 11
    · rw [if_pos ⟨d, c⟩]
      have e : headW k = word k := if_pos d
      rw [e]
      obtain ⟨i, rfl⟩ : ∃ i : Nat, k = (i : Int) := ⟨k.toNat, by omega⟩
      cases f : findW (numsOf (word i)) 11 1 with
      | none => exact absurd rfl (find_none 11 1 f i (by omega) (by omega))
      | some j =>
        have := find_some 11 1 j f
        have := word_nat2 j (by omega) i (by omega) this.2.2
        subst this
        rfl
    · rw [if_neg (fun q => d q.1)]
      have e : headW k = ⟨#[63]⟩ := if_neg d
      rw [e]
      cases f : findW (numsOf (⟨#[63]⟩ : ByteArray)) 11 1 with
      | none => rfl
      | some j =>
        have q := find_some 11 1 j f
        exact absurd q.2.2 (word_nat j (by omega)).2.2.1
/-- A line that is an event's is that one's own. -/
theorem parsed_back {s : Int} {b : ByteArray} (h : (parsed s (numsOf b) 11 1).2.2.2 = true) : lineV (parsed s (numsOf b) 11 1).2.1 (parsed s (numsOf b) 11 1).2.2.1 = b ∧ (1 ≤ (parsed s (numsOf b) 11 1).2.1 ∧ (parsed s (numsOf b) 11 1).2.1 ≤ 11) ∧ (0 ≤ (parsed s (numsOf b) 11 1).2.2.1 ∧ (parsed s (numsOf b) 11 1).2.2.1 ≤ 1099511627776) ∧ (parsed s (numsOf b) 11 1).1 = s := by
  unfold parsed at *
  by_cases c : 32 ∈ numsOf b ∧ (getv ((numsOf b).drop ((bef 32 (numsOf b)).length + 1))).2 = 0
  · rw [if_pos c] at *
    cases f : findW (bef 32 (numsOf b)) 11 1 with
    | none =>
      rw [f] at h
      cases h
    | some j =>
      dsimp only
      have q := find_some 11 1 j f
      obtain ⟨_, v, v1, v0, hd⟩ := get_back c.2
      rw [v]
      refine ⟨?_, by omega, ⟨v0, v1⟩, rfl⟩
      refine nums_inj ?_
      rw [line_nums (by omega)]
      conv => rhs; rw [(bef_some c.1).1]
      have e : headW (j : Int) = word (j : Int) := if_pos (by omega)
      rw [e, q.2.2]
      congr 2
      unfold telll
      rw [if_neg (by omega)]
      exact hd
  · rw [if_neg c] at h
    cases h
end Go.Proofs.Ytcgdhpnobgimfaa.Num
