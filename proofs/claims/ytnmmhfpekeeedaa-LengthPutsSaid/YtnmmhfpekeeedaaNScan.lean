/- Texts as tokens (layer 12): what a text comes to, by value; the program's side. -/
import Derived.Test.YtnmmhfpekeeedaaPNx0
import Derived.Test.YtnmmhfpekeeedaaPNx2
import Derived.Test.YtnmmhfpekeeedaaPNx3
import Derived.Test.YtnmmhfpekeeedaaPNx4
import Derived.Test.YtnmmhfpekeeedaaPNx5
import Derived.Test.YtnmmhfpekeeedaaNQuoteV
import Derived.Test.YtnmmhfpekeeedaaNCut
namespace Go.Proofs.Ytnmmhfpekeeedaa.Num
set_option linter.unusedVariables false
set_option linter.unusedSimpArgs false
open Go.RowKit Go.Proofs.Ytnmmhfpekeeedaa.PN Go.Proofs.YtnmmhfpekeeedaaW.PrintWords Go.Proofs.YtnmmhfpekeeedaaW.PrintMore

/-! ### Bytes -/
/-- What a byte is. -/
def cls (c : Int) : Int :=
  if 97 ≤ c ∧ c ≤ 122 then 1 else if 48 ≤ c ∧ c ≤ 57 then 2 else if c = 95 then 3 else if c = 46 then 4
  else if c = 123 ∨ c = 125 ∨ c = 40 ∨ c = 41 ∨ c = 44 ∨ c = 59 ∨ c = 37 then 5 else if c = 34 then 6
  else if c = 32 ∨ c = 9 ∨ c = 10 ∨ c = 13 then 7 else if c = 35 then 8 else 0
def atv (l : List Int) (i : Nat) : Int := if i < l.length then cls (l.getD i 0) else 0
theorem atv_drop (l : List Int) (p q : Nat) : atv (l.drop p) q = atv l (p + q) := by
  unfold atv
  rw [getD_drop, List.length_drop]
  by_cases c : p + q < l.length
  · rw [if_pos c, if_pos (by omega)]
  · rw [if_neg c, if_neg (by omega)]
theorem atv_pos {l : List Int} {i : Nat} (h : atv l i ≠ 0) : i < l.length := by
  unfold atv at h
  rcases Nat.lt_or_ge i l.length with c | c
  · exact c
  · rw [if_neg (by omega)] at h
    exact absurd rfl h
theorem cls_1 (c : Int) : cls c = 1 ↔ 97 ≤ c ∧ c ≤ 122 := by unfold cls; repeat' split <;> omega
theorem cls_2 (c : Int) : cls c = 2 ↔ 48 ≤ c ∧ c ≤ 57 := by unfold cls; repeat' split <;> omega
theorem cls_4 (c : Int) : cls c = 4 ↔ c = 46 := by unfold cls; repeat' split <;> omega
theorem cls_5 (c : Int) : cls c = 5 ↔ (c = 123 ∨ c = 125 ∨ c = 40 ∨ c = 41 ∨ c = 44 ∨ c = 59 ∨ c = 37) := by unfold cls; repeat' split <;> omega
theorem cls_6 (c : Int) : cls c = 6 ↔ c = 34 := by unfold cls; repeat' split <;> omega
theorem cls_7 (c : Int) : cls c = 7 ↔ (c = 32 ∨ c = 9 ∨ c = 10 ∨ c = 13) := by unfold cls; repeat' split <;> omega
theorem cls_8 (c : Int) : cls c = 8 ↔ c = 35 := by unfold cls; repeat' split <;> omega
theorem cls_13 (c : Int) : (1 ≤ cls c ∧ cls c ≤ 3) ↔ ((97 ≤ c ∧ c ≤ 122) ∨ (48 ≤ c ∧ c ≤ 57) ∨ c = 95) := by unfold cls; repeat' split <;> omega
def inB (c : Int) : Bool := decide (1 ≤ cls c ∧ cls c ≤ 3)
def digB (c : Int) : Bool := decide (cls c = 2)
theorem letter_ok (c : Int) : scan_letter.f c = some (decide (cls c = 1)) := by
  unfold scan_letter.f
  by_cases a : c ≥ 97
  · rw [if_pos a]
    congr 1
    rw [decide_eq_decide, cls_1]
    omega
  · rw [if_neg a]
    congr 1
    symm
    rw [decide_eq_false_iff_not, cls_1]
    omega
theorem digit_ok12 (c : Int) : scan_digit.f c = some (digB c) := by
  unfold scan_digit.f digB
  by_cases a : c ≥ 48
  · rw [if_pos a]
    congr 1
    rw [decide_eq_decide, cls_2]
    omega
  · rw [if_neg a]
    congr 1
    symm
    rw [decide_eq_false_iff_not, cls_2]
    omega
theorem inner_ok (c : Int) : scan_inner.f c = some (inB c) := by
  unfold scan_inner.f inB
  rw [letter_ok, Option.bind_some, digit_ok12, Option.bind_some]
  have h := cls_13 c
  by_cases a : cls c = 1
  · rw [if_pos (decide_eq_true a), decide_eq_true (by omega)]
  · rw [if_neg (by simpa using a)]
    by_cases b : cls c = 2
    · rw [if_pos (by unfold digB; exact decide_eq_true b), decide_eq_true (by omega)]
    · rw [if_neg (by unfold digB; simpa using b)]
      have h1 := cls_1 c
      have h2 := cls_2 c
      congr 1
      rw [Bool.eq_iff_iff, beq_iff_eq, decide_eq_true_iff]
      omega
/-! ### Places -/
def stepP (p : Int × Int) (x : Int) : Int × Int := if x = 10 then (p.1 + 1, 1) else (p.1, p.2 + 1)
def posv (p : Int × Int) (l : List Int) : Int × Int := l.foldl stepP p
theorem posv_app (p : Int × Int) (a b : List Int) : posv p (a ++ b) = posv (posv p a) b := List.foldl_append
theorem posv_bd (l : List Int) : ∀ p : Int × Int, 1 ≤ p.1 → 1 ≤ p.2 → 1 ≤ (posv p l).1 ∧ 1 ≤ (posv p l).2 ∧ (posv p l).1 ≤ p.1 + l.length ∧ (posv p l).2 ≤ p.2 + l.length := by
  induction l with
  | nil => intro p h0 h1; exact ⟨h0, h1, by simp [posv], by simp [posv]⟩
  | cons x t ih =>
    intro p h0 h1
    have h := ih (stepP p x) (by unfold stepP; split <;> (dsimp only; omega)) (by unfold stepP; split <;> (dsimp only; omega))
    have e1 : (stepP p x).1 ≤ p.1 + 1 := by unfold stepP; split <;> (dsimp only; omega)
    have e2 : (stepP p x).2 ≤ p.2 + 1 := by unfold stepP; split <;> (dsimp only; omega)
    show 1 ≤ (posv (stepP p x) t).1 ∧ 1 ≤ (posv (stepP p x) t).2 ∧ (posv (stepP p x) t).1 ≤ p.1 + ((x :: t).length : Int) ∧ (posv (stepP p x) t).2 ≤ p.2 + ((x :: t).length : Int)
    rw [List.length_cons]
    omega
theorem posv_snoc (p : Int × Int) (l : List Int) (i : Nat) (h : i < l.length) : posv p (l.take (i + 1)) = stepP (posv p (l.take i)) (l.getD i 0) := by
  rw [List.take_add_one, List.getElem?_eq_getElem h, Option.toList_some, posv_app, List.getD_eq_getElem?_getD, List.getElem?_eq_getElem h]
  rfl
theorem skip_loop (s : ByteArray) (hs : s.size < 1000000) (n : Nat) (hn : n ≤ s.size) (p : Int × Int) (h1 : 1 ≤ p.1 ∧ p.1 < 1000000000) (h2 : 1 ≤ p.2 ∧ p.2 < 1000000000) (e : Nat) : ∀ i : Nat, i + e = n →
    Ev (fun k => scan_scanner_skip.l0 k (n : Int) ((numsOf s).take n) (((numsOf s).take n).length : Int) (i : Int) s (posv p (((numsOf s).take n).take i)).1 (posv p (((numsOf s).take n).take i)).2) (s.extract n s.size, (posv p ((numsOf s).take n)).1, (posv p ((numsOf s).take n)).2) := by
  have hl := nums_len s
  have hlen : ((numsOf s).take n).length = n := by rw [List.length_take]; omega
  induction e with
  | zero =>
    intro i h
    obtain rfl : i = n := by omega
    refine Ev.step (fun k => by rw [scan_scanner_skip.l0]) ?_
    refine evn (by omega) ?_
    refine evp (by omega) ?_
    refine evp (by omega) ?_
    rw [Int.toNat_natCast, List.take_of_length_le (l := (numsOf s).take i) (by omega)]
    exact Ev.now _
  | succ e ih =>
    intro i h
    have nx := ih (i + 1) (by omega)
    have b := posv_bd (((numsOf s).take n).take i) p h1.1 h2.1
    have lt : (((numsOf s).take n).take i).length ≤ 1000000 := by rw [List.length_take]; omega
    rw [posv_snoc p _ i (by omega)] at nx
    refine Ev.step (fun k => by rw [scan_scanner_skip.l0]) ?_
    refine evp (by omega) ?_
    refine evp (by omega) ?_
    refine evp (by omega) ?_
    rw [rd_nat]
    unfold stepP at nx
    by_cases c : ((numsOf s).take n).getD i 0 = 10
    · rw [if_pos c] at nx
      refine evp c ?_
      rw [w64_succ (by omega), w64_id (by omega) (by omega)]
      exact nx
    · rw [if_neg c] at nx
      refine evn c ?_
      rw [w64_succ (by omega), w64_id (by omega) (by omega)]
      exact nx
theorem skip_ok (s : ByteArray) (hs : s.size < 1000000) (n : Nat) (hn : n ≤ s.size) (p : Int × Int) (h1 : 1 ≤ p.1 ∧ p.1 < 1000000000) (h2 : 1 ≤ p.2 ∧ p.2 < 1000000000) :
    Ev (fun k => scan_scanner_skip.f k s p.1 p.2 (n : Int)) (s.extract n s.size, (posv p ((numsOf s).take n)).1, (posv p ((numsOf s).take n)).2) := by
  have hl := nums_len s
  unfold scan_scanner_skip.f
  have e : numsOf (s.extract 0 (n : Int).toNat) = (numsOf s).take n := by rw [nums_take, Int.toNat_natCast]
  have sz : (s.extract 0 (n : Int).toNat).size ≤ n := by rw [← nums_len, e, List.length_take]; omega
  refine evp (by omega) ?_
  rw [e]
  unfold scan_scanner_skip.g
  refine evp (by omega) ?_
  refine evp (by omega) ?_
  exact skip_loop s hs n hn p h1 h2 n 0 (by omega)
/-! ### What stands between tokens -/
inductive GapR : List Int → Nat → Prop
  | stop (l : List Int) (h : atv l 0 ≠ 7 ∧ atv l 0 ≠ 8) : GapR l 0
  | blank (l : List Int) (n : Nat) (h : atv l 0 = 7) (r : GapR (l.drop 1) n) : GapR l (1 + n)
  | rem (l : List Int) (n : Nat) (h : atv l 0 = 8) (r : GapR (l.drop (bef 10 l).length) n) : GapR l ((bef 10 l).length + n)
theorem rem_head {l : List Int} (h : atv l 0 = 8) : 0 < l.length ∧ l.getD 0 0 = 35 ∧ 0 < (bef 10 l).length ∧ (bef 10 l).length ≤ l.length := by
  have p := atv_pos (l := l) (i := 0) (by omega)
  unfold atv at h
  rw [if_pos p, cls_8] at h
  refine ⟨p, h, ?_, ?_⟩
  · cases l with
    | nil => simp at p
    | cons x t =>
      have hx : x = 35 := h
      rw [show bef 10 (x :: t) = x :: bef 10 t from if_neg (by omega)]
      simp
  · by_cases m : (10 : Int) ∈ l
    · exact Nat.le_of_lt (bef_le m)
    · rw [bef_none m]
      exact Nat.le_refl _
theorem GapR.ex (d : Nat) : ∀ l : List Int, l.length ≤ d → ∃ n, GapR l n := by
  induction d with
  | zero =>
    intro l h
    have : l = [] := List.eq_nil_of_length_eq_zero (by omega)
    subst this
    exact ⟨0, .stop _ ⟨by decide, by decide⟩⟩
  | succ d ih =>
    intro l h
    by_cases c : atv l 0 = 7
    · have p := atv_pos (l := l) (i := 0) (by omega)
      obtain ⟨n, hn⟩ := ih (l.drop 1) (by rw [List.length_drop]; omega)
      exact ⟨_, .blank l n c hn⟩
    · by_cases c2 : atv l 0 = 8
      · have r := rem_head c2
        obtain ⟨n, hn⟩ := ih (l.drop (bef 10 l).length) (by rw [List.length_drop]; omega)
        exact ⟨_, .rem l n c2 hn⟩
      · exact ⟨0, .stop l ⟨c, c2⟩⟩
theorem GapR.le {l : List Int} {n : Nat} (h : GapR l n) : n ≤ l.length := by
  induction h with
  | stop l h => exact Nat.zero_le _
  | blank l n h r ih =>
    have p := atv_pos (l := l) (i := 0) (by omega)
    rw [List.length_drop] at ih
    omega
  | rem l n h r ih =>
    have p := rem_head h
    rw [List.length_drop] at ih
    omega
theorem GapR.end_ {l : List Int} {n : Nat} (h : GapR l n) : atv (l.drop n) 0 ≠ 7 ∧ atv (l.drop n) 0 ≠ 8 := by
  induction h with
  | stop l h => exact h
  | blank l n h r ih => rw [List.drop_drop] at ih; exact ih
  | rem l n h r ih => rw [List.drop_drop] at ih; exact ih
theorem drop_byte {l : List Int} (hb : ∀ x, x ∈ l → 0 ≤ x ∧ x < 256) (p : Nat) : numsOf (strOfNums (l.drop p)) = l.drop p := nums_str fun x hx => hb x (List.mem_of_mem_drop hx)
theorem ext_drop (t : ByteArray) (n : Nat) : t.extract n t.size = strOfNums ((numsOf t).drop n) := by rw [← nums_drop, str_nums]
theorem gap_ok {l : List Int} {n : Nat} (h : GapR l n) : ∀ (t : ByteArray), numsOf t = l → t.size < 1000000 → ∀ p : Int × Int, 1 ≤ p.1 → 1 ≤ p.2 → p.1 + l.length < 1000000000 → p.2 + l.length < 1000000000 →
    Ev (fun k => scan_scanner_gap.l0 k t p.1 p.2) (strOfNums (l.drop n), (posv p (l.take n)).1, (posv p (l.take n)).2) := by
  induction h with
  | stop l h =>
    intro t ht hs p a1 a2 a3 a4
    have hl := nums_len t
    have es : strOfNums (l.drop 0) = t := by rw [List.drop_zero, ← ht, str_nums]
    rw [es]
    refine Ev.step (fun k => by rw [scan_scanner_gap.l0]) ?_
    by_cases c : t.toList = ([] : List UInt8)
    · exact evp c (Ev.now _)
    · have n0 : 0 < l.length := by
        rw [← ht]
        exact List.length_pos_iff.2 fun e => c ((toList_nil t).2 e)
      rw [ht] at hl
      have hc : ¬ (l.getD 0 0 = 32 ∨ l.getD 0 0 = 9 ∨ l.getD 0 0 = 10 ∨ l.getD 0 0 = 13) ∧ l.getD 0 0 ≠ 35 := by
        unfold atv at h
        rw [if_pos n0] at h
        have h7 := cls_7 (l.getD 0 0)
        have h8 := cls_8 (l.getD 0 0)
        exact ⟨fun q => h.1 (h7.2 q), fun q => h.2 (h8.2 q)⟩
      refine evn c ?_
      refine evp (by omega) ?_
      rw [bt0, ht]
      refine evn (by omega) ?_
      refine evn (by omega) ?_
      refine evn (by omega) ?_
      refine Ev.step (fun k => by rw [scan_scanner_gap.j1]) ?_
      refine evn (by rw [beq_iff_eq]; omega) ?_
      refine evn hc.2 ?_
      exact Ev.now _
  | blank l n h r ih =>
    intro t ht hs p a1 a2 a3 a4
    have hl := nums_len t
    rw [ht] at hl
    have n0 := atv_pos (l := l) (i := 0) (by omega)
    have hc : l.getD 0 0 = 32 ∨ l.getD 0 0 = 9 ∨ l.getD 0 0 = 10 ∨ l.getD 0 0 = 13 := by
      unfold atv at h
      rw [if_pos n0, cls_7] at h
      exact h
    have hb : ∀ x, x ∈ l → 0 ≤ x ∧ x < 256 := by rw [← ht]; exact nums_byte t
    have b := posv_bd (l.take 1) p a1 a2
    have lt : (l.take 1).length = 1 := by rw [List.length_take]; omega
    have hd : (l.drop 1).length = l.length - 1 := List.length_drop
    have sk := skip_ok t hs 1 (by omega) p ⟨a1, by omega⟩ ⟨a2, by omega⟩
    rw [ext_drop, ht] at sk
    have nx := ih (strOfNums (l.drop 1)) (drop_byte hb 1) (by rw [strOfNums_size]; omega) (posv p (l.take 1)) b.1 b.2.1 (by omega) (by omega)
    rw [List.drop_drop, ← posv_app, ← List.take_add] at nx
    have j : ∀ c : Int, ∀ d : Bool, d = true → Ev (fun k => scan_scanner_gap.j1 k c d t p.1 p.2) (strOfNums (l.drop (1 + n)), (posv p (l.take (1 + n))).1, (posv p (l.take (1 + n))).2) := by
      intro c d hd
      refine Ev.step (fun k => by rw [scan_scanner_gap.j1]) ?_
      refine evp hd ?_
      refine Ev.bind sk ?_
      exact nx
    refine Ev.step (fun k => by rw [scan_scanner_gap.l0]) ?_
    refine evn (fun q => by have := (toList_nil t).1 q; rw [ht] at this; rw [this] at n0; simp at n0) ?_
    refine evp (by omega) ?_
    rw [bt0, ht]
    by_cases c1 : l.getD 0 0 = 32
    · exact evp c1 (j _ _ (by rw [beq_iff_eq]; exact c1))
    · refine evn c1 ?_
      by_cases c2 : l.getD 0 0 = 9
      · exact evp c2 (j _ _ (by rw [beq_iff_eq]; exact c2))
      · refine evn c2 ?_
        by_cases c3 : l.getD 0 0 = 10
        · exact evp c3 (j _ _ (by rw [beq_iff_eq]; exact c3))
        · exact evn c3 (j _ _ (by rw [beq_iff_eq]; omega))
  | rem l n h r ih =>
    intro t ht hs p a1 a2 a3 a4
    have hl := nums_len t
    rw [ht] at hl
    have rh := rem_head h
    have hb : ∀ x, x ∈ l → 0 ≤ x ∧ x < 256 := by rw [← ht]; exact nums_byte t
    generalize hm : (bef 10 l).length = m at *
    have b := posv_bd (l.take m) p a1 a2
    have lt : (l.take m).length = m := by rw [List.length_take]; omega
    have hd : (l.drop m).length = l.length - m := List.length_drop
    have sk := skip_ok t hs m (by omega) p ⟨a1, by omega⟩ ⟨a2, by omega⟩
    rw [ext_drop, ht] at sk
    have nx := ih (strOfNums (l.drop m)) (drop_byte hb m) (by rw [strOfNums_size]; omega) (posv p (l.take m)) b.1 b.2.1 (by omega) (by omega)
    rw [List.drop_drop, ← posv_app, ← List.take_add] at nx
    refine Ev.step (fun k => by rw [scan_scanner_gap.l0]) ?_
    refine evn (fun q => by have := (toList_nil t).1 q; rw [ht] at this; rw [this] at rh; simp at rh) ?_
    refine evp (by omega) ?_
    rw [bt0, ht]
    refine evn (by omega) ?_
    refine evn (by omega) ?_
    refine evn (by omega) ?_
    refine Ev.step (fun k => by rw [scan_scanner_gap.j1]) ?_
    refine evn (by rw [beq_iff_eq]; omega) ?_
    refine evp rh.2.1 ?_
    have ix : strings_IndexByte.f t 10 = some (if (10 : Int) ∈ l then ((bef 10 l).length : Int) else -1) := by
      unfold strings_IndexByte.f
      have := index_nums t 10
      rw [ht] at this
      rw [show (10 : Int).toNat.toUInt8 = 10 from rfl, this]
      rfl
    refine evs ix ?_
    by_cases c : (10 : Int) ∈ l
    · rw [if_pos c, hm]
      refine evn (by omega) ?_
      refine Ev.bind sk ?_
      exact nx
    · rw [if_neg c]
      rw [bef_none c] at hm
      refine evp (by omega) ?_
      have e : (t.size : Int) = (m : Int) := by omega
      rw [e]
      refine Ev.bind sk ?_
      exact nx
/-! ### Runs -/
def runC (f : Int → Bool) : List Int → Nat
  | [] => 0
  | x :: t => if f x = true then runC f t + 1 else 0
theorem runC_le (f : Int → Bool) : ∀ l : List Int, runC f l ≤ l.length
  | [] => Nat.le_refl _
  | x :: t => by
    have := runC_le f t
    rw [List.length_cons]
    show (if f x = true then runC f t + 1 else 0) ≤ _
    split <;> omega
theorem runC_drop (f : Int → Bool) (l : List Int) (i : Nat) (h : i < l.length) : runC f (l.drop i) = if f (l.getD i 0) = true then runC f (l.drop (i + 1)) + 1 else 0 := by
  rw [List.drop_eq_getElem_cons h, List.getD_eq_getElem?_getD, List.getElem?_eq_getElem h]
  rfl
theorem run75_loop (s : ByteArray) (hs : s.size < 1000000) (e : Nat) : ∀ i : Nat, i + e = s.size → Ev (fun k => scan_run_scan_inner.l0 k s (s.size : Int) (i : Int)) ((i + runC inB ((numsOf s).drop i) : Nat) : Int) := by
  have hl := nums_len s
  induction e with
  | zero =>
    intro i h
    refine Ev.step (fun k => by rw [scan_run_scan_inner.l0]) ?_
    refine evn (by omega) ?_
    rw [List.drop_eq_nil_of_le (by omega), show runC inB [] = 0 from rfl, show ((i + 0 : Nat) : Int) = (s.size : Int) from by omega]
    exact Ev.now _
  | succ e ih =>
    intro i h
    have nx := ih (i + 1) (by omega)
    refine Ev.step (fun k => by rw [scan_run_scan_inner.l0]) ?_
    refine evp (by omega) ?_
    refine evp (by omega) ?_
    refine evp (by omega) ?_
    rw [bt_nums, runC_drop inB _ i (by omega)]
    refine evs (inner_ok _) ?_
    by_cases c : inB ((numsOf s).getD i 0) = true
    · rw [if_pos c]
      refine evp c ?_
      rw [w64_succ (by omega), show i + (runC inB ((numsOf s).drop (i + 1)) + 1) = i + 1 + runC inB ((numsOf s).drop (i + 1)) from by omega]
      exact nx
    · rw [if_neg c]
      exact evn c (Ev.now _)
theorem run77_loop (s : ByteArray) (hs : s.size < 1000000) (e : Nat) : ∀ i : Nat, i + e = s.size → Ev (fun k => scan_run_scan_digit.l0 k s (s.size : Int) (i : Int)) ((i + runC digB ((numsOf s).drop i) : Nat) : Int) := by
  have hl := nums_len s
  induction e with
  | zero =>
    intro i h
    refine Ev.step (fun k => by rw [scan_run_scan_digit.l0]) ?_
    refine evn (by omega) ?_
    rw [List.drop_eq_nil_of_le (by omega), show runC digB [] = 0 from rfl, show ((i + 0 : Nat) : Int) = (s.size : Int) from by omega]
    exact Ev.now _
  | succ e ih =>
    intro i h
    have nx := ih (i + 1) (by omega)
    refine Ev.step (fun k => by rw [scan_run_scan_digit.l0]) ?_
    refine evp (by omega) ?_
    refine evp (by omega) ?_
    refine evp (by omega) ?_
    rw [bt_nums, runC_drop digB _ i (by omega)]
    refine evs (digit_ok12 _) ?_
    by_cases c : digB ((numsOf s).getD i 0) = true
    · rw [if_pos c]
      refine evp c ?_
      rw [w64_succ (by omega), show i + (runC digB ((numsOf s).drop (i + 1)) + 1) = i + 1 + runC digB ((numsOf s).drop (i + 1)) from by omega]
      exact nx
    · rw [if_neg c]
      exact evn c (Ev.now _)
theorem run75_ok (s : ByteArray) (hs : s.size < 1000000) : Ev (fun k => scan_run_scan_inner.f k s) (runC inB (numsOf s) : Int) := by
  have := run75_loop s hs s.size 0 (by omega)
  rw [List.drop_zero, Nat.zero_add] at this
  exact this
theorem run77_ok (s : ByteArray) (hs : s.size < 1000000) : Ev (fun k => scan_run_scan_digit.f k s) (runC digB (numsOf s) : Int) := by
  have := run77_loop s hs s.size 0 (by omega)
  rw [List.drop_zero, Nat.zero_add] at this
  exact this
/-! ### Numbers -/
def badA (x : Int) : Bool := decide (1 ≤ x ∧ x ≤ 4)
/-- How many bytes the number at the begin has; 0: it is none. -/
def numV (l : List Int) : Nat :=
  if 1 < runC digB l ∧ l.getD 0 0 = 48 then 0
  else if atv l (runC digB l) = 4 then
    (if runC digB (l.drop (runC digB l + 1)) = 0 then 0 else if badA (atv l (runC digB l + 1 + runC digB (l.drop (runC digB l + 1)))) = true then 0 else runC digB l + 1 + runC digB (l.drop (runC digB l + 1)))
  else if badA (atv l (runC digB l)) = true then 0 else runC digB l
theorem numV_le (l : List Int) : numV l ≤ l.length := by
  have a := runC_le digB l
  have b := runC_le digB (l.drop (runC digB l + 1))
  rw [List.length_drop] at b
  unfold numV
  split
  · exact Nat.zero_le _
  · split
    · have p := atv_pos (l := l) (i := runC digB l) (by omega)
      split
      · exact Nat.zero_le _
      · split
        · exact Nat.zero_le _
        · omega
    · split
      · exact Nat.zero_le _
      · exact a
theorem number_end (s : ByteArray) (hs : s.size < 1000000) (n : Nat) {g : Nat → Option Int} {R : Int} (hn : n ≤ s.size)
    (hg : g = fun k => if (n : Int) < (s.size : Int) then (if 0 ≤ (n : Int) then ((scan_inner.f (bt s (n : Int))).bind fun t => (if t = true then (some 0) else (if (bt s (n : Int)) = 46 then (some 0) else (some (n : Int))))) else (none)) else (some (n : Int)))
    (hR : R = if badA (atv (numsOf s) n) = true then 0 else (n : Int)) : Ev g R := by
  have hl := nums_len s
  subst hg
  by_cases c : (n : Int) < (s.size : Int)
  · refine evp c ?_
    refine evp (by omega) ?_
    rw [bt_nums]
    refine evs (inner_ok _) ?_
    have ha : atv (numsOf s) n = cls ((numsOf s).getD n 0) := if_pos (by omega)
    rw [ha] at hR
    have h4 := cls_4 ((numsOf s).getD n 0)
    by_cases d : 1 ≤ cls ((numsOf s).getD n 0) ∧ cls ((numsOf s).getD n 0) ≤ 3
    · have e : R = 0 := hR.trans (if_pos (by unfold badA; exact decide_eq_true (by omega)))
      rw [e]
      exact evp (by unfold inB; exact decide_eq_true d) (Ev.now _)
    · refine evn (by unfold inB; simpa using d) ?_
      by_cases f : (numsOf s).getD n 0 = 46
      · have e : R = 0 := hR.trans (if_pos (by unfold badA; exact decide_eq_true (by omega)))
        rw [e]
        exact evp f (Ev.now _)
      · have e : R = (n : Int) := hR.trans (if_neg (by unfold badA; rw [decide_eq_true_iff]; omega))
        rw [e]
        exact evn f (Ev.now _)
  · refine evn c ?_
    have ha : atv (numsOf s) n = 0 := if_neg (by omega)
    rw [ha] at hR
    have e : R = (n : Int) := hR.trans (if_neg (by decide))
    rw [e]
    exact Ev.now _
theorem number_ok (s : ByteArray) (hs : s.size < 1000000) (hd : atv (numsOf s) 0 = 2) : Ev (fun k => scan_number.f k s) (numV (numsOf s) : Int) := by
  have hl := nums_len s
  have hle := runC_le digB (numsOf s)
  have n0 := atv_pos (l := numsOf s) (i := 0) (by omega)
  unfold scan_number.f
  refine Ev.bind (run77_ok s hs) ?_
  have key : ¬ (1 < runC digB (numsOf s) ∧ (numsOf s).getD 0 0 = 48) → Ev (fun k => scan_number.j0 k s (runC digB (numsOf s) : Int) false) (numV (numsOf s) : Int) := by
    intro hz
    unfold numV
    rw [if_neg hz]
    generalize runC digB (numsOf s) = n at *
    refine Ev.step (fun k => by rw [scan_number.j0]) ?_
    refine evn (by simp) ?_
    have e4 : atv (numsOf s) n = 4 ↔ (n < s.size ∧ (numsOf s).getD n 0 = 46) := by
      unfold atv
      by_cases c : n < (numsOf s).length
      · rw [if_pos c, cls_4]
        omega
      · rw [if_neg c]
        omega
    have plain : atv (numsOf s) n ≠ 4 → Ev (fun k => scan_number.j1 k s (n : Int) false) (((if atv (numsOf s) n = 4 then (if runC digB ((numsOf s).drop (n + 1)) = 0 then 0 else if badA (atv (numsOf s) (n + 1 + runC digB ((numsOf s).drop (n + 1)))) = true then 0 else n + 1 + runC digB ((numsOf s).drop (n + 1))) else if badA (atv (numsOf s) n) = true then 0 else n : Nat)) : Int) := by
      intro h
      rw [if_neg h]
      refine Ev.step (fun k => by rw [scan_number.j1]) ?_
      refine evn (by simp) ?_
      exact number_end s hs n (by omega) rfl (by split <;> rfl)
    by_cases c : (n : Int) < (s.size : Int)
    · refine evp c ?_
      refine evp (by omega) ?_
      rw [bt_nums]
      by_cases d : (numsOf s).getD n 0 = 46
      · rw [show ((numsOf s).getD n 0 == 46) = true from by rw [beq_iff_eq]; exact d, if_pos (e4.2 ⟨by omega, d⟩)]
        have rl := runC_le digB ((numsOf s).drop (n + 1))
        rw [List.length_drop] at rl
        refine Ev.step (fun k => by rw [scan_number.j1]) ?_
        refine evp rfl ?_
        rw [w64_succ (by omega)]
        refine evp (by omega) ?_
        refine evp (by omega) ?_
        have r := run77_ok (s.extract (n + 1) s.size) (by rw [← nums_len, nums_drop, List.length_drop]; omega)
        rw [nums_drop] at r
        rw [Int.toNat_natCast]
        refine Ev.bind r ?_
        generalize hm : runC digB ((numsOf s).drop (n + 1)) = m at *
        by_cases z : m = 0
        · rw [if_pos z]
          exact evp (by omega) (Ev.now _)
        · rw [if_neg z]
          refine evn (by omega) ?_
          have w1 : wrap64 ((n : Int) + wrap64 (1 + (m : Int))) = ((n + 1 + m : Nat) : Int) := by
            rw [w64_id (x := 1 + (m : Int)) (by omega) (by omega), w64_id (by omega) (by omega)]
            omega
          rw [w1]
          exact number_end s hs (n + 1 + m) (by omega) rfl (by split <;> rfl)
      · rw [show ((numsOf s).getD n 0 == 46) = false from by rw [beq_eq_false_iff_ne]; exact d]
        exact plain (fun q => d (e4.1 q).2)
    · refine evn c ?_
      exact plain (fun q => by have := (e4.1 q).1; omega)
  by_cases c : (runC digB (numsOf s) : Int) > 1
  · refine evp c ?_
    refine evp (by omega) ?_
    rw [bt0]
    by_cases d : (numsOf s).getD 0 0 = 48
    · rw [show ((numsOf s).getD 0 0 == 48) = true from by rw [beq_iff_eq]; exact d]
      unfold numV
      rw [if_pos ⟨by omega, d⟩]
      refine Ev.step (fun k => by rw [scan_number.j0]) ?_
      exact evp rfl (Ev.now _)
    · rw [show ((numsOf s).getD 0 0 == 48) = false from by rw [beq_eq_false_iff_ne]; exact d]
      exact key (fun q => d q.2)
  · refine evn c ?_
    exact key (fun q => by omega)
/-! ### Quotes -/
theorem RV.gt {l : List Int} {p : Nat} {a : List Int} {R : ByteArray × Int} (h : RV l p a R) : R.2 = 0 ∨ ((p : Int) < R.2 ∧ R.2 ≤ l.length) := by
  induction h with
  | out p a h => exact .inl rfl
  | quote p a h q => exact .inr ⟨by show (p : Int) < ((p + 1 : Nat) : Int); omega, by show ((p + 1 : Nat) : Int) ≤ _; omega⟩
  | bad p a h q z => exact .inl rfl
  | step p a R h q z n ih =>
    rcases ih with ih | ih
    · exact .inl ih
    · exact .inr ⟨by omega, ih.2⟩
theorem getD_take (l : List Int) (m q : Nat) (h : q < m) : (l.take m).getD q 0 = l.getD q 0 := by
  rw [List.getD_eq_getElem?_getD, List.getD_eq_getElem?_getD, List.getElem?_take, if_pos h]
theorem oneP_take (l : List Int) (p m : Nat) (hm : m ≤ l.length) (h : (oneP l p).2 ≠ 0) (h2 : p + (oneP l p).2 ≤ m) : oneP (l.take m) p = oneP l p := by
  have hp : p < m := by omega
  have lt : (l.take m).length = m := by rw [List.length_take]; omega
  unfold oneP at *
  rw [getD_take l m p hp, lt]
  by_cases c1 : plainP (l.getD p 0)
  · rw [if_pos c1, if_pos c1]
  · rw [if_neg c1] at h h2
    rw [if_neg c1, if_neg c1]
    by_cases c2 : l.getD p 0 = 92 ∧ p + 1 < l.length
    · rw [if_pos c2] at h h2
      rw [if_pos c2]
      have two : p + 2 ≤ m := by
        by_cases d1 : l.getD (p + 1) 0 = 34 ∨ l.getD (p + 1) 0 = 92
        · rw [if_pos d1] at h2
          exact h2
        · rw [if_neg d1] at h h2
          by_cases d2 : l.getD (p + 1) 0 = 110
          · rw [if_pos d2] at h2
            exact h2
          · rw [if_neg d2] at h h2
            by_cases d3 : l.getD (p + 1) 0 = 120 ∧ p + 3 < l.length ∧ 0 ≤ dg (l.getD (p + 2) 0) ∧ 0 ≤ dg (l.getD (p + 3) 0)
            · rw [if_pos d3] at h2
              have h2 : p + 4 ≤ m := h2
              omega
            · rw [if_neg d3] at h
              exact absurd rfl h
      rw [if_pos ⟨c2.1, by omega⟩, getD_take l m (p + 1) (by omega)]
      by_cases d1 : l.getD (p + 1) 0 = 34 ∨ l.getD (p + 1) 0 = 92
      · rw [if_pos d1, if_pos d1]
      · rw [if_neg d1] at h h2
        rw [if_neg d1, if_neg d1]
        by_cases d2 : l.getD (p + 1) 0 = 110
        · rw [if_pos d2, if_pos d2]
        · rw [if_neg d2] at h h2
          rw [if_neg d2, if_neg d2]
          by_cases d3 : l.getD (p + 1) 0 = 120 ∧ p + 3 < l.length ∧ 0 ≤ dg (l.getD (p + 2) 0) ∧ 0 ≤ dg (l.getD (p + 3) 0)
          · rw [if_pos d3] at h2
            have h2 : p + 4 ≤ m := h2
            rw [if_pos d3, getD_take l m (p + 2) (by omega), getD_take l m (p + 3) (by omega), if_pos ⟨d3.1, by omega, d3.2.2⟩]
          · rw [if_neg d3] at h
            exact absurd rfl h
    · rw [if_neg c2] at h
      exact absurd rfl h
theorem RV.take {l : List Int} {p : Nat} {a : List Int} {R : ByteArray × Int} (h : RV l p a R) (m : Nat) (hR : R.2 = (m : Int)) (hm : 0 < m) : RV (l.take m) p a R := by
  induction h with
  | out p a h =>
    have : (0 : Int) = (m : Int) := hR
    omega
  | quote p a h q =>
    have : ((p + 1 : Nat) : Int) = (m : Int) := hR
    obtain rfl : m = p + 1 := by omega
    exact .quote p a (by rw [List.length_take]; omega) (by rw [getD_take l _ p (by omega)]; exact q)
  | bad p a h q z =>
    have : (0 : Int) = (m : Int) := hR
    omega
  | step p a R h q z n ih =>
    have g := n.gt
    have e := oneP_take l p m (by omega) z (by omega)
    refine .step p a R (by rw [List.length_take]; omega) (by rw [getD_take l m p (by omega)]; exact q) (by rw [e]; exact z) ?_
    rw [e]
    exact ih hR
theorem ReadV.bd {l : List Int} {R : ByteArray × Int} (h : ReadV l R) : 0 ≤ R.2 ∧ R.2 ≤ l.length := by
  unfold ReadV at h
  split at h
  · have := h.gt
    omega
  · subst h
    exact ⟨Int.le_refl _, Int.natCast_nonneg _⟩
theorem ReadV.take {l : List Int} {R : ByteArray × Int} (h : ReadV l R) (h0 : 0 < R.2) : ReadV (l.take R.2.toNat) R := by
  have b := h.bd
  have h1 := h
  unfold ReadV at h ⊢
  split at h
  · rename_i c
    have lt : (l.take R.2.toNat).length = R.2.toNat := by rw [List.length_take]; omega
    rw [if_pos ⟨by rw [getD_take l _ 0 (by omega)]; exact c.1, by omega⟩]
    exact h.take R.2.toNat (by omega) (by omega)
  · subst h
    exact absurd h0 (by decide)
/-! ### One token -/
def tokV (kind : Int) (text : ByteArray) (n most : Int) : Int × ByteArray × Int × Int :=
  if n = 0 then (0, ⟨#[]⟩, 0, 2) else if (text.size : Int) > most then (0, ⟨#[]⟩, 0, 6) else (kind, text, n, 0)
/-- The token at the begin (R: the quoted text that is there): its kind, its text, how many bytes it has, what is told. -/
def oneV (l : List Int) (R : ByteArray × Int) : Int × ByteArray × Int × Int :=
  if atv l 0 = 1 then tokV 1 (strOfNums (l.take (runC inB l))) (runC inB l : Int) 16
  else if atv l 0 = 2 then tokV 2 (strOfNums (l.take (numV l))) (numV l : Int) 40
  else if atv l 0 = 6 then tokV 3 R.1 R.2 64
  else if atv l 0 = 5 then tokV 4 (strOfNums (l.take 1)) 1 1
  else (0, ⟨#[]⟩, 0, 2)
theorem tokV_n {kind : Int} {text : ByteArray} {n most : Int} (h : (tokV kind text n most).2.2.2 = 0) : (tokV kind text n most).2.2.1 = n ∧ n ≠ 0 := by
  unfold tokV at *
  split at h
  · exact absurd h (by decide)
  · rename_i c
    rw [if_neg c]
    split at h
    · exact absurd h (by decide)
    · rename_i d
      rw [if_neg d]
      exact ⟨rfl, c⟩
theorem oneV_n {l : List Int} {R : ByteArray × Int} (hR : ReadV l R) (h : (oneV l R).2.2.2 = 0) : 0 < (oneV l R).2.2.1 ∧ (oneV l R).2.2.1 ≤ l.length := by
  have b := hR.bd
  have a1 := runC_le inB l
  have a2 := numV_le l
  unfold oneV at *
  split at h
  · rename_i c
    rw [if_pos c]
    have := tokV_n h
    omega
  · rename_i c
    rw [if_neg c]
    split at h
    · rename_i d
      rw [if_pos d]
      have := tokV_n h
      omega
    · rename_i d
      rw [if_neg d]
      split at h
      · rename_i e
        rw [if_pos e]
        have := tokV_n h
        omega
      · rename_i e
        rw [if_neg e]
        split at h
        · rename_i f
          rw [if_pos f]
          have := tokV_n h
          have := atv_pos (l := l) (i := 0) (by omega)
          omega
        · exact absurd h (by decide)
theorem token_ok (kind : Int) (text : ByteArray) (n most : Int) : scan_token.f kind text n most = some ((tokV kind text n most).1, (tokV kind text n most).2.1, 0, 0, (tokV kind text n most).2.2.1, (tokV kind text n most).2.2.2) := by
  unfold scan_token.f tokV
  by_cases c : n = 0
  · rw [if_pos c, if_pos c]
  · rw [if_neg c, if_neg c]
    by_cases d : (text.size : Int) > most
    · rw [if_pos d, if_pos d]
    · rw [if_neg d, if_neg d]
theorem marks_nat : ∀ i : Nat, i < 256 → (Lib.indexByte (⟨#[123, 125, 40, 41, 44, 59, 37]⟩ : ByteArray).data.toList i.toUInt8 ≥ 0 ↔ cls (i : Int) = 5) := by decide +kernel
theorem scan_one_ok (s : ByteArray) (hs : s.size < 1000000) (h0 : 0 < s.size) {R : ByteArray × Int} (hR : ReadV (numsOf s) R) :
    Ev (fun k => scan_one.f k s) ((oneV (numsOf s) R).1, (oneV (numsOf s) R).2.1, 0, 0, (oneV (numsOf s) R).2.2.1, (oneV (numsOf s) R).2.2.2) := by
  have hl := nums_len s
  have ha : atv (numsOf s) 0 = cls ((numsOf s).getD 0 0) := if_pos (by omega)
  have b := byte_at s 0
  have bd := hR.bd
  have ex : ∀ n : Nat, s.extract 0 n = strOfNums ((numsOf s).take n) := fun n => by rw [← nums_take, str_nums]
  unfold scan_one.f oneV
  refine evp (by omega) ?_
  rw [bt0, ha]
  refine evs (letter_ok _) ?_
  by_cases c1 : cls ((numsOf s).getD 0 0) = 1
  · rw [if_pos c1]
    have rl := runC_le inB (numsOf s)
    refine evp (decide_eq_true c1) ?_
    refine Ev.bind (run75_ok s hs) ?_
    refine evp (by omega) ?_
    refine evp (by omega) ?_
    rw [Int.toNat_natCast, ex]
    exact evs (token_ok _ _ _ _) (Ev.now _)
  · rw [if_neg c1]
    refine evn (by simpa using c1) ?_
    refine evs (digit_ok12 _) ?_
    by_cases c2 : cls ((numsOf s).getD 0 0) = 2
    · rw [if_pos c2]
      have rl := numV_le (numsOf s)
      refine evp (by unfold digB; exact decide_eq_true c2) ?_
      refine Ev.bind (number_ok s hs (by rw [ha]; exact c2)) ?_
      refine evp (by omega) ?_
      refine evp (by omega) ?_
      rw [Int.toNat_natCast, ex]
      exact evs (token_ok _ _ _ _) (Ev.now _)
    · rw [if_neg c2]
      refine evn (by unfold digB; simpa using c2) ?_
      have h6 := cls_6 ((numsOf s).getD 0 0)
      by_cases c3 : cls ((numsOf s).getD 0 0) = 6
      · rw [if_pos c3]
        refine evp (h6.1 c3) ?_
        refine Ev.bind (span_ok s hs hR) ?_
        refine evp (by omega) ?_
        refine evp (by omega) ?_
        have sz : (s.extract 0 R.2.toNat).size = R.2.toNat := by rw [← nums_len, nums_take, List.length_take]; omega
        by_cases z : R.2 = 0
        · obtain ⟨Q, hQ⟩ := ReadV.ex (numsOf (s.extract 0 R.2.toNat))
          refine Ev.bind (getq_ok (s.extract 0 R.2.toNat) (by omega) hQ) ?_
          have t1 : tokV 3 R.1 R.2 64 = tokV 3 (getQ Q (s.extract 0 R.2.toNat).size).1 R.2 64 := by
            unfold tokV
            rw [if_pos z, if_pos z]
          rw [t1]
          exact evs (token_ok _ _ _ _) (Ev.now _)
        · have hQ := hR.take (by omega)
          rw [← nums_take] at hQ
          have g := getq_ok _ (by omega) hQ
          have e : getQ R (s.extract 0 R.2.toNat).size = (R.1, 0) := if_neg (by omega)
          rw [e] at g
          refine Ev.bind g ?_
          exact evs (token_ok _ _ _ _) (Ev.now _)
      · rw [if_neg c3]
        refine evn (fun q => c3 (h6.2 q)) ?_
        have ix : strings_IndexByte.f (⟨#[123, 125, 40, 41, 44, 59, 37]⟩ : ByteArray) ((numsOf s).getD 0 0) = some (Lib.indexByte (⟨#[123, 125, 40, 41, 44, 59, 37]⟩ : ByteArray).data.toList ((numsOf s).getD 0 0).toNat.toUInt8) := rfl
        have m := marks_nat ((numsOf s).getD 0 0).toNat (by omega)
        rw [show ((((numsOf s).getD 0 0).toNat : Nat) : Int) = (numsOf s).getD 0 0 from by omega] at m
        refine evs ix ?_
        by_cases c4 : cls ((numsOf s).getD 0 0) = 5
        · rw [if_pos c4]
          refine evp (m.2 c4) ?_
          refine evp (by omega) ?_
          refine evp (by omega) ?_
          rw [ex]
          exact evs (token_ok _ _ _ _) (Ev.now _)
        · rw [if_neg c4]
          exact evn (fun q => c4 (m.1 q)) (Ev.now _)
/-! ### All tokens -/
def errE (acc : List S34) (o : Int × ByteArray × Int × Int) : Int := if o.2.2.2 = 0 ∧ acc.length = 4000 then 9 else o.2.2.2
def tokAt (L : List Int) (p : Nat) (o : Int × ByteArray × Int × Int) : S34 := ⟨o.1, o.2.1, ⟨(posv (1, 1) (L.take p)).1, (posv (1, 1) (L.take p)).2⟩⟩
inductive TokR (L : List Int) : Nat → List S34 → (List S34 × Int × Int × Int) → Prop
  | fin (p : Nat) (acc : List S34) (h : L.length ≤ p) : TokR L p acc (acc ++ [tokAt L p (0, ⟨#[]⟩, 0, 0)], 0, 0, 0)
  | err (p : Nat) (acc : List S34) (R : ByteArray × Int) (h : p < L.length) (hr : ReadV (L.drop p) R) (he : errE acc (oneV (L.drop p) R) ≠ 0) : TokR L p acc ([], (posv (1, 1) (L.take p)).1, (posv (1, 1) (L.take p)).2, errE acc (oneV (L.drop p) R))
  | step (p : Nat) (acc : List S34) (R : ByteArray × Int) (n g : Nat) (Z : List S34 × Int × Int × Int) (h : p < L.length) (hr : ReadV (L.drop p) R) (he : errE acc (oneV (L.drop p) R) = 0) (hn : (oneV (L.drop p) R).2.2.1 = (n : Int)) (hg : GapR (L.drop (p + n)) g) (r : TokR L (p + n + g) (acc ++ [tokAt L p (oneV (L.drop p) R)]) Z) : TokR L p acc Z
theorem errE_zero {acc : List S34} {o : Int × ByteArray × Int × Int} (h : errE acc o = 0) : o.2.2.2 = 0 ∧ acc.length ≠ 4000 := by
  unfold errE at h
  split at h
  · exact absurd h (by decide)
  · rename_i c
    exact ⟨h, fun q => c ⟨h, q⟩⟩
theorem TokR.ex (L : List Int) (d : Nat) : ∀ (p : Nat) (acc : List S34), L.length - p ≤ d → ∃ Z, TokR L p acc Z := by
  induction d with
  | zero => intro p acc h; exact ⟨_, .fin p acc (by omega)⟩
  | succ d ih =>
    intro p acc h
    by_cases c : p < L.length
    · obtain ⟨R, hR⟩ := ReadV.ex (L.drop p)
      by_cases e : errE acc (oneV (L.drop p) R) = 0
      · have nn := oneV_n hR (errE_zero e).1
        rw [List.length_drop] at nn
        obtain ⟨n, hn⟩ : ∃ n : Nat, (oneV (L.drop p) R).2.2.1 = (n : Int) := ⟨(oneV (L.drop p) R).2.2.1.toNat, by omega⟩
        obtain ⟨g, hg⟩ := GapR.ex _ (L.drop (p + n)) (Nat.le_refl _)
        obtain ⟨Z, hZ⟩ := ih (p + n + g) (acc ++ [tokAt L p (oneV (L.drop p) R)]) (by omega)
        exact ⟨Z, .step p acc R n g Z c hR e hn hg hZ⟩
      · exact ⟨_, .err p acc R c hR e⟩
    · exact ⟨_, .fin p acc (by omega)⟩
theorem TokR.le {L : List Int} {p : Nat} {acc : List S34} {Z : List S34 × Int × Int × Int} (h : TokR L p acc Z) (ha : acc.length ≤ 4000) : Z.1.length ≤ 4001 := by
  induction h with
  | fin p acc h => show (acc ++ [_]).length ≤ _; rw [List.length_append, List.length_singleton]; omega
  | err p acc R h hr he => exact Nat.zero_le _
  | step p acc R n g Z h hr he hn hg r ih =>
    have := (errE_zero he).2
    exact ih (by rw [List.length_append, List.length_singleton]; omega)
theorem pos_all (L : List Int) (hL : L.length < 1000000) (p : Nat) : 1 ≤ (posv (1, 1) (L.take p)).1 ∧ 1 ≤ (posv (1, 1) (L.take p)).2 ∧ (posv (1, 1) (L.take p)).1 ≤ 1000001 ∧ (posv (1, 1) (L.take p)).2 ≤ 1000001 := by
  have b := posv_bd (L.take p) (1, 1) (by decide) (by decide)
  have lt : (L.take p).length ≤ L.length := by rw [List.length_take]; omega
  have e1 : ((1, 1) : Int × Int).1 = 1 := rfl
  have e2 : ((1, 1) : Int × Int).2 = 1 := rfl
  omega
theorem tokens_loop {L : List Int} (hb : ∀ x, x ∈ L → 0 ≤ x ∧ x < 256) (hL : L.length < 1000000) {p : Nat} {acc : List S34} {Z : List S34 × Int × Int × Int} (h : TokR L p acc Z) : acc.length ≤ 4000 → p ≤ L.length →
    Ev (fun k => scan_Tokens.l0 k acc (strOfNums (L.drop p)) (posv (1, 1) (L.take p)).1 (posv (1, 1) (L.take p)).2) Z := by
  induction h with
  | fin p acc h =>
    intro ha hp
    refine Ev.step (fun k => by rw [scan_Tokens.l0]) ?_
    refine evp ((toList_nil _).2 (by rw [drop_byte hb]; exact List.drop_eq_nil_of_le h)) ?_
    refine evp (by omega) ?_
    exact Ev.now _
  | err p acc R h hr he =>
    intro ha hp
    have nd := drop_byte hb p
    have ln : (L.drop p).length = L.length - p := List.length_drop
    have o := scan_one_ok (strOfNums (L.drop p)) (by rw [strOfNums_size]; omega) (by rw [strOfNums_size]; omega) (R := R) (by rw [nd]; exact hr)
    rw [nd] at o
    refine Ev.step (fun k => by rw [scan_Tokens.l0]) ?_
    refine evn (fun q => by have := (toList_nil _).1 q; rw [nd] at this; rw [this] at ln; simp at ln; omega) ?_
    refine Ev.bind o ?_
    have fin : ∀ e : Int, e = errE acc (oneV (L.drop p) R) → Ev (fun k => scan_Tokens.j2 k acc (oneV (L.drop p) R).2.2.1 e (strOfNums (L.drop p)) (posv (1, 1) (L.take p)).1 (posv (1, 1) (L.take p)).2 (oneV (L.drop p) R).1 (oneV (L.drop p) R).2.1 0 0) ([], (posv (1, 1) (L.take p)).1, (posv (1, 1) (L.take p)).2, errE acc (oneV (L.drop p) R)) := by
      intro e q
      subst q
      refine Ev.step (fun k => by rw [scan_Tokens.j2]) ?_
      exact evn he (Ev.now _)
    by_cases c : (oneV (L.drop p) R).2.2.2 = 0
    · have full : acc.length = 4000 := by
        rcases Classical.em (acc.length = 4000) with q | q
        · exact q
        · exfalso
          unfold errE at he
          rw [if_neg (fun z => q z.2)] at he
          exact he c
      refine evp c ?_
      refine Ev.step (fun k => by rw [scan_Tokens.j1]) ?_
      refine evp (by rw [beq_iff_eq]; omega) ?_
      exact fin 9 (by unfold errE; rw [if_pos ⟨c, full⟩])
    · refine evn c ?_
      refine Ev.step (fun k => by rw [scan_Tokens.j1]) ?_
      refine evn (by simp) ?_
      exact fin _ (by unfold errE; rw [if_neg (fun z => c z.1)])
  | step p acc R n g Z h hr he hn hg r ih =>
    intro ha hp
    obtain ⟨e0, nf⟩ := errE_zero he
    have nd := drop_byte hb p
    have nd2 := drop_byte hb (p + n)
    have ln : (L.drop p).length = L.length - p := List.length_drop
    have ln2 : (L.drop (p + n)).length = L.length - (p + n) := List.length_drop
    have nn := oneV_n hr e0
    have gl := hg.le
    have pb := pos_all L hL p
    have o := scan_one_ok (strOfNums (L.drop p)) (by rw [strOfNums_size]; omega) (by rw [strOfNums_size]; omega) (R := R) (by rw [nd]; exact hr)
    rw [nd] at o
    refine Ev.step (fun k => by rw [scan_Tokens.l0]) ?_
    refine evn (fun q => by have := (toList_nil _).1 q; rw [nd] at this; rw [this] at ln; simp at ln; omega) ?_
    refine Ev.bind o ?_
    refine evp e0 ?_
    refine Ev.step (fun k => by rw [scan_Tokens.j1]) ?_
    refine evn (by rw [beq_iff_eq]; omega) ?_
    refine Ev.step (fun k => by rw [scan_Tokens.j2]) ?_
    refine evp e0 ?_
    refine evp (by omega) ?_
    have sk := skip_ok (strOfNums (L.drop p)) (by rw [strOfNums_size]; omega) n (by rw [strOfNums_size]; omega) (posv (1, 1) (L.take p)) ⟨pb.1, by omega⟩ ⟨pb.2.1, by omega⟩
    rw [ext_drop, nd, List.drop_drop, ← posv_app, ← List.take_add] at sk
    rw [hn]
    refine Ev.bind sk ?_
    have pb2 := pos_all L hL (p + n)
    have gp := gap_ok hg (strOfNums (L.drop (p + n))) nd2 (by rw [strOfNums_size]; omega) (posv (1, 1) (L.take (p + n))) pb2.1 pb2.2.1 (by omega) (by omega)
    rw [List.drop_drop, ← posv_app, ← List.take_add] at gp
    unfold scan_scanner_gap.f
    refine Ev.bind gp ?_
    exact ih (by rw [List.length_append, List.length_singleton]; omega) (by omega)
theorem scan_tokens_ok (s : ByteArray) (hs : s.size ≤ 65536) {g : Nat} {Z : List S34 × Int × Int × Int} (hg : GapR (numsOf s) g) (h : TokR (numsOf s) g [] Z) : Ev (fun k => scan_Tokens.f k s) Z := by
  have hl := nums_len s
  unfold scan_Tokens.f
  refine evn (by omega) ?_
  have gp := gap_ok hg s rfl (by omega) (1, 1) (by decide) (by decide) (by show (1 : Int) + _ < _; omega) (by show (1 : Int) + _ < _; omega)
  unfold scan_scanner_gap.f
  refine Ev.bind gp ?_
  exact tokens_loop (nums_byte s) (by omega) h (by simp) hg.le
end Go.Proofs.Ytnmmhfpekeeedaa.Num
