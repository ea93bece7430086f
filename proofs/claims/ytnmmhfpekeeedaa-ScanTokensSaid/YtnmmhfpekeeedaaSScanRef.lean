/- Texts as tokens (layer 12): the reference's side. -/
import Derived.Test.YtnmmhfpekeeedaaPSx0
import Derived.Test.YtnmmhfpekeeedaaPSx7
import Derived.Test.YtnmmhfpekeeedaaPSx9
import Derived.Test.YtnmmhfpekeeedaaPSx10
import Derived.Test.YtnmmhfpekeeedaaSScan
import Derived.Test.YtnmmhfpekeeedaaSQuoteR
namespace Go.Proofs.Ytnmmhfpekeeedaa.Num
set_option linter.unusedVariables false
set_option linter.unusedSimpArgs false
open Go.RowKit Go.Proofs.Ytnmmhfpekeeedaa.PS Go.Proofs.YtnmmhfpekeeedaaW.PrintWords Go.Proofs.YtnmmhfpekeeedaaW.PrintMore

theorem class_nat : ∀ i : Nat, i < 256 → regimenref12_class.f 40 (i : Int) = some (cls (i : Int)) := by decide +kernel
theorem class_ok {c : Int} (h0 : 0 ≤ c) (h1 : c < 256) : Ev (fun k => regimenref12_class.f k c) (cls c) := by
  obtain ⟨i, rfl⟩ : ∃ i : Nat, c = (i : Int) := ⟨c.toNat, by omega⟩
  exact Ev.of (fun k => regimenref12_class.mono _ k) (k := 40) (class_nat i (by omega))
theorem at_ok12 (s : ByteArray) (i : Nat) : Ev (fun k => regimenref12_at.f k s (i : Int)) (atv (numsOf s) i) := by
  have hl := nums_len s
  unfold regimenref12_at.f atv
  by_cases c : (i : Int) ≥ (s.size : Int)
  · rw [if_neg (by omega)]
    exact evp c (Ev.now _)
  · rw [if_pos (by omega)]
    refine evn c ?_
    refine evp (by omega) ?_
    refine evp (by omega) ?_
    rw [bt_nums]
    have b := byte_at s i
    exact Ev.bind (class_ok b.1 b.2) (Ev.now _)
theorem pos_loop12 (s : ByteArray) (hs : s.size < 1000000) (n : Nat) (hn : n ≤ s.size) (e : Nat) : ∀ i : Nat, i + e = n →
    Ev (fun k => regimenref12_Pos.l0 k s (n : Int) (i : Int) (posv (1, 1) ((numsOf s).take i)).1 (posv (1, 1) ((numsOf s).take i)).2) ((posv (1, 1) ((numsOf s).take n)).1, (posv (1, 1) ((numsOf s).take n)).2) := by
  have hl := nums_len s
  induction e with
  | zero =>
    intro i h
    obtain rfl : i = n := by omega
    refine Ev.step (fun k => by rw [regimenref12_Pos.l0]) ?_
    exact evn (by omega) (Ev.now _)
  | succ e ih =>
    intro i h
    have nx := ih (i + 1) (by omega)
    have b := pos_all (numsOf s) (by omega) i
    rw [posv_snoc (1, 1) _ i (by omega)] at nx
    unfold stepP at nx
    refine Ev.step (fun k => by rw [regimenref12_Pos.l0]) ?_
    refine evp (by omega) ?_
    refine evp (by omega) ?_
    refine evp (by omega) ?_
    rw [bt_nums]
    by_cases c : (numsOf s).getD i 0 = 10
    · rw [if_pos c] at nx
      refine evp c ?_
      rw [w64_succ (by omega), w64_id (by omega) (by omega)]
      exact nx
    · rw [if_neg c] at nx
      refine evn c ?_
      rw [w64_succ (by omega), w64_id (by omega) (by omega)]
      exact nx
theorem pos_ok12 (s : ByteArray) (hs : s.size < 1000000) (n : Nat) (hn : n ≤ s.size) : Ev (fun k => regimenref12_Pos.f k s (n : Int)) ((posv (1, 1) ((numsOf s).take n)).1, (posv (1, 1) ((numsOf s).take n)).2) := by
  have := pos_loop12 s hs n hn n 0 (by omega)
  exact this
/-! ### Gaps -/
theorem bef_at {c : Int} : ∀ (l : List Int) (q : Nat), q < (bef c l).length → l.getD q 0 ≠ c
  | [], q, h => by simp [bef] at h
  | x :: t, q, h => by
    by_cases e : x = c
    · rw [show bef c (x :: t) = [] from if_pos e] at h
      simp at h
    · rw [show bef c (x :: t) = x :: bef c t from if_neg e, List.length_cons] at h
      cases q with
      | zero => exact e
      | succ q => exact bef_at t q (by omega)
theorem bef_end {c : Int} : ∀ (l : List Int), (bef c l).length < l.length → l.getD (bef c l).length 0 = c
  | [], h => by simp at h
  | x :: t, h => by
    by_cases e : x = c
    · rw [show bef c (x :: t) = [] from if_pos e]
      exact e
    · rw [show bef c (x :: t) = x :: bef c t from if_neg e, List.length_cons] at h ⊢
      exact bef_end t (by rw [List.length_cons] at h; omega)
theorem gap_l1 (s : ByteArray) (hs : s.size < 1000000) (i : Nat) (hi : i ≤ s.size) {R : Int} (hR : Ev (fun k => regimenref12_Gap.l0 k s ((i + (bef 10 ((numsOf s).drop i)).length : Nat) : Int)) R) (hm : i + (bef 10 ((numsOf s).drop i)).length ≤ s.size) (e : Nat) :
    ∀ j : Nat, j + e = (bef 10 ((numsOf s).drop i)).length → Ev (fun k => regimenref12_Gap.l1 k s ((i + j : Nat) : Int)) R := by
  have hl := nums_len s
  have ld : ((numsOf s).drop i).length = s.size - i := by rw [List.length_drop]; omega
  induction e with
  | zero =>
    intro j h
    obtain rfl : j = (bef 10 ((numsOf s).drop i)).length := by omega
    refine Ev.step (fun k => by rw [regimenref12_Gap.l1]) ?_
    by_cases c : ((i + (bef 10 ((numsOf s).drop i)).length : Nat) : Int) < (s.size : Int)
    · have be := bef_end ((numsOf s).drop i) (c := 10) (by omega)
      rw [getD_drop] at be
      refine evp c ?_
      refine evp (by omega) ?_
      rw [bt_nums]
      exact evp be hR
    · exact evn c hR
  | succ e ih =>
    intro j h
    have ba := bef_at ((numsOf s).drop i) j (c := 10) (by omega)
    rw [getD_drop] at ba
    refine Ev.step (fun k => by rw [regimenref12_Gap.l1]) ?_
    refine evp (by omega) ?_
    refine evp (by omega) ?_
    rw [bt_nums]
    refine evn ba ?_
    rw [w64_succ (by omega)]
    exact ih (j + 1) (by omega)
theorem ref_gap_ok (s : ByteArray) (hs : s.size < 1000000) {l : List Int} {n : Nat} (h : GapR l n) : ∀ i : Nat, i ≤ s.size → l = (numsOf s).drop i → Ev (fun k => regimenref12_Gap.l0 k s (i : Int)) ((i + n : Nat) : Int) := by
  have hl := nums_len s
  induction h with
  | stop l h =>
    intro i hi e
    subst e
    rw [atv_drop, Nat.add_zero] at h
    refine Ev.step (fun k => by rw [regimenref12_Gap.l0]) ?_
    refine Ev.bind (at_ok12 s i) ?_
    refine evn h.1 ?_
    refine Ev.bind (at_ok12 s i) ?_
    refine Ev.step (fun k => by rw [regimenref12_Gap.j1]) ?_
    refine evn (by rw [beq_iff_eq]; exact h.2) ?_
    exact Ev.now _
  | blank l n h r ih =>
    intro i hi e
    subst e
    rw [atv_drop, Nat.add_zero] at h
    have p := atv_pos (l := numsOf s) (i := i) (by omega)
    have nx := ih (i + 1) (by omega) (by rw [List.drop_drop])
    rw [show i + 1 + n = i + (1 + n) from by omega] at nx
    refine Ev.step (fun k => by rw [regimenref12_Gap.l0]) ?_
    refine Ev.bind (at_ok12 s i) ?_
    refine evp h ?_
    refine Ev.step (fun k => by rw [regimenref12_Gap.j1]) ?_
    refine evp rfl ?_
    refine Ev.bind (at_ok12 s i) ?_
    refine evn (by omega) ?_
    rw [w64_succ (by omega)]
    exact nx
  | rem l n h r ih =>
    intro i hi e
    subst e
    have rh := rem_head h
    rw [List.length_drop] at rh
    rw [atv_drop, Nat.add_zero] at h
    have nx := ih (i + (bef 10 ((numsOf s).drop i)).length) (by omega) (by rw [List.drop_drop])
    rw [show i + (bef 10 ((numsOf s).drop i)).length + n = i + ((bef 10 ((numsOf s).drop i)).length + n) from by omega] at nx
    have l1 := gap_l1 s hs i hi nx (by omega) (bef 10 ((numsOf s).drop i)).length 0 (by omega)
    refine Ev.step (fun k => by rw [regimenref12_Gap.l0]) ?_
    refine Ev.bind (at_ok12 s i) ?_
    refine evn (by omega) ?_
    refine Ev.bind (at_ok12 s i) ?_
    refine Ev.step (fun k => by rw [regimenref12_Gap.j1]) ?_
    refine evp (by rw [beq_iff_eq]; exact h) ?_
    refine Ev.bind (at_ok12 s i) ?_
    refine evp h ?_
    exact l1
/-! ### One token -/
theorem ext_mid (s : ByteArray) (p n : Nat) (h : p + n ≤ s.size) : s.extract p (p + n) = strOfNums (((numsOf s).drop p).take n) ∧ (s.extract p (p + n)).size = n := by
  have e : numsOf (s.extract p (p + n)) = ((numsOf s).drop p).take n := by
    unfold numsOf
    rw [← List.map_drop, ← List.map_take]
    congr 1
    rw [ByteArray.data_extract, Array.toList_extract, List.extract_eq_take_drop, show p + n - p = n from by omega]
  refine ⟨by rw [← e, str_nums], ?_⟩
  rw [← nums_len, e, List.length_take, List.length_drop, nums_len]
  omega
def refV (p : Nat) (o : Int × ByteArray × Int × Int) (q : Int × Int) : Int × ByteArray × Int × Int × Int × Int :=
  if o.2.2.2 = 0 then (o.1, o.2.1, q.1, q.2, (p : Int) + o.2.2.1, 0) else (0, ⟨#[]⟩, 0, 0, 0, o.2.2.2)
theorem refV_tok {p : Nat} {kind : Int} {text : ByteArray} {n most : Int} {q : Int × Int} (h : n ≠ 0) : refV p (tokV kind text n most) q = if (text.size : Int) > most then (0, ⟨#[]⟩, 0, 0, 0, 6) else (kind, text, q.1, q.2, (p : Int) + n, 0) := by
  unfold refV tokV
  rw [if_neg h]
  by_cases c : (text.size : Int) > most
  · rw [if_pos c, if_pos c]
    rfl
  · rw [if_neg c, if_neg c]
    rfl
theorem refV_none {p : Nat} {kind : Int} {text : ByteArray} {n most : Int} {q : Int × Int} (h : n = 0) : refV p (tokV kind text n most) q = (0, ⟨#[]⟩, 0, 0, 0, 2) := by
  unfold refV tokV
  rw [if_pos h]
  rfl
/-- The end of a token: its text, if it is not too long. -/
theorem tok_end {α : Nat → Option (Int × ByteArray × Int × Int × Int × Int)} (s : ByteArray) (p n : Nat) (hp : p + n ≤ s.size) (kind most : Int) (q : Int × Int) (h0 : n ≠ 0)
    (hα : α = fun k => if 0 ≤ (p : Int) then (if (p : Int) ≤ ((p + n : Nat) : Int) then (if ((p + n : Nat) : Int) ≤ (s.size : Int) then (if ((s.extract (p : Int).toNat ((p + n : Nat) : Int).toNat).size : Int) > most then (some (0, (⟨#[]⟩ : ByteArray), 0, 0, 0, 6)) else (some (kind, s.extract (p : Int).toNat ((p + n : Nat) : Int).toNat, q.1, q.2, ((p + n : Nat) : Int), 0))) else (none)) else (none)) else (none)) :
    Ev α (refV p (tokV kind (strOfNums (((numsOf s).drop p).take n)) (n : Int) most) q) := by
  obtain ⟨e1, e2⟩ := ext_mid s p n hp
  subst hα
  refine evp (by omega) ?_
  refine evp (by omega) ?_
  refine evp (by omega) ?_
  have E := refV_tok (p := p) (kind := kind) (text := s.extract p (p + n)) (n := (n : Int)) (most := most) (q := q) (by omega)
  rw [Int.toNat_natCast, Int.toNat_natCast, ← e1]
  by_cases c : ((s.extract p (p + n)).size : Int) > most
  · rw [E.trans (if_pos c)]
    exact evp c (Ev.now _)
  · rw [E.trans (if_neg c), show (p : Int) + (n : Int) = ((p + n : Nat) : Int) from by omega]
    exact evn c (Ev.now _)
theorem name_loop (s : ByteArray) (hs : s.size < 1000000) (p n : Nat) (hn : n = runC inB ((numsOf s).drop p)) (h0 : n ≠ 0) (hp : p + n ≤ s.size) (a : Int) (b : ByteArray) (q : Int × Int) (e : Nat) : ∀ i : Nat, i + e = n → runC inB ((numsOf s).drop (p + i)) = e →
    Ev (fun k => regimenref12_One.l0 k s (p : Int) ((p + i : Nat) : Int) 16 a b q.1 q.2) (refV p (tokV 1 (strOfNums (((numsOf s).drop p).take n)) (n : Int) 16) q) := by
  have hl := nums_len s
  induction e with
  | zero =>
    intro i h hr
    obtain rfl : i = n := by omega
    have te := tok_end s p i hp 1 16 q h0 rfl
    have hat : ¬ (1 ≤ atv (numsOf s) (p + i) ∧ atv (numsOf s) (p + i) ≤ 3) := by
      intro z
      have lt := atv_pos (l := numsOf s) (i := p + i) (by omega)
      rw [runC_drop inB _ _ lt] at hr
      have ha : atv (numsOf s) (p + i) = cls ((numsOf s).getD (p + i) 0) := if_pos lt
      rw [ha] at z
      rw [if_pos (by unfold inB; exact decide_eq_true z)] at hr
      omega
    refine Ev.step (fun k => by rw [regimenref12_One.l0]) ?_
    refine Ev.bind (at_ok12 s (p + i)) ?_
    by_cases c : atv (numsOf s) (p + i) ≥ 1
    · refine evp c ?_
      refine Ev.bind (at_ok12 s (p + i)) ?_
      refine evn (by omega) ?_
      exact te
    · exact evn c te
  | succ e ih =>
    intro i h hr
    have lt : p + i < (numsOf s).length := by omega
    rw [runC_drop inB _ _ lt] at hr
    have ha : atv (numsOf s) (p + i) = cls ((numsOf s).getD (p + i) 0) := if_pos lt
    by_cases c : inB ((numsOf s).getD (p + i) 0) = true
    · rw [if_pos c] at hr
      have nx := ih (i + 1) (by omega) (by rw [← Nat.add_assoc]; omega)
      unfold inB at c
      rw [decide_eq_true_iff] at c
      refine Ev.step (fun k => by rw [regimenref12_One.l0]) ?_
      refine Ev.bind (at_ok12 s (p + i)) ?_
      refine evp (by omega) ?_
      refine Ev.bind (at_ok12 s (p + i)) ?_
      refine evp (by omega) ?_
      rw [w64_succ (by omega)]
      exact nx
    · rw [if_neg c] at hr
      omega
theorem run_at (l : List Int) : atv l (runC digB l) ≠ 2 := by
  induction l with
  | nil => decide
  | cons x t ih =>
    by_cases c : digB x = true
    · rw [show runC digB (x :: t) = runC digB t + 1 from if_pos c]
      intro q
      refine ih ?_
      unfold atv at *
      rw [List.length_cons] at q
      by_cases d : runC digB t < t.length
      · rw [if_pos (by omega)] at q
        rw [if_pos d]
        exact q
      · rw [if_neg (by omega)] at q
        omega
    · rw [show runC digB (x :: t) = 0 from if_neg c]
      unfold digB at c
      rw [decide_eq_true_iff] at c
      unfold atv
      rw [if_pos (by simp)]
      exact c
theorem digs_loop (s : ByteArray) (hs : s.size < 1000000) (p n : Nat) (hp : p + n ≤ s.size) {F : Nat → Int → Option (Int × ByteArray × Int × Int × Int × Int)} {G : Nat → Int → Option (Int × ByteArray × Int × Int × Int × Int)} {R : Int × ByteArray × Int × Int × Int × Int}
    (hF : ∀ k x, F (k + 1) x = (regimenref12_at.f k s x).bind fun t => (if t = 2 then F k (wrap64 (x + 1)) else G k x)) (hG : Ev (fun k => G k ((p + n : Nat) : Int)) R) (e : Nat) : ∀ i : Nat, i + e = n → runC digB ((numsOf s).drop (p + i)) = e → Ev (fun k => F k ((p + i : Nat) : Int)) R := by
  have hl := nums_len s
  induction e with
  | zero =>
    intro i h hr
    obtain rfl : i = n := by omega
    have ra := run_at ((numsOf s).drop (p + i))
    rw [hr, atv_drop, Nat.add_zero] at ra
    refine Ev.step (fun k => hF k _) ?_
    refine Ev.bind (at_ok12 s (p + i)) ?_
    exact evn ra hG
  | succ e ih =>
    intro i h hr
    have lt : p + i < (numsOf s).length := by omega
    rw [runC_drop digB _ _ lt] at hr
    have ha : atv (numsOf s) (p + i) = cls ((numsOf s).getD (p + i) 0) := if_pos lt
    by_cases c : digB ((numsOf s).getD (p + i) 0) = true
    · rw [if_pos c] at hr
      have nx := ih (i + 1) (by omega) (by rw [← Nat.add_assoc]; omega)
      unfold digB at c
      rw [decide_eq_true_iff] at c
      refine Ev.step (fun k => hF k _) ?_
      refine Ev.bind (at_ok12 s (p + i)) ?_
      refine evp (by omega) ?_
      rw [w64_succ (by omega)]
      exact nx
    · rw [if_neg c] at hr
      omega
theorem number_tail (s : ByteArray) (hs : s.size < 1000000) (p n : Nat) (hp : p + n ≤ s.size) (h0 : n ≠ 0) (a : Int) (b : ByteArray) (q : Int × Int) :
    Ev (fun k => regimenref12_One.j4 k s (p : Int) ((p + n : Nat) : Int) a b q.1 q.2) (refV p (tokV 2 (strOfNums (((numsOf s).drop p).take (if badA (atv ((numsOf s).drop p) n) = true then 0 else n))) ((if badA (atv ((numsOf s).drop p) n) = true then 0 else n : Nat) : Int) 40) q) := by
  have j5 : ∀ d : Bool, (d = true ↔ (1 ≤ atv (numsOf s) (p + n) ∧ atv (numsOf s) (p + n) ≤ 4)) → Ev (fun k => regimenref12_One.j5 k s (p : Int) ((p + n : Nat) : Int) d a b q.1 q.2) (refV p (tokV 2 (strOfNums (((numsOf s).drop p).take (if badA (atv ((numsOf s).drop p) n) = true then 0 else n))) ((if badA (atv ((numsOf s).drop p) n) = true then 0 else n : Nat) : Int) 40) q) := by
    intro d hd
    rw [atv_drop]
    refine Ev.step (fun k => by rw [regimenref12_One.j5]) ?_
    by_cases c : d = true
    · rw [if_pos (show badA (atv (numsOf s) (p + n)) = true from by unfold badA; exact decide_eq_true (hd.1 c)), refV_none (n := ((0 : Nat) : Int)) rfl]
      exact evp c (Ev.now _)
    · rw [if_neg (show ¬ badA (atv (numsOf s) (p + n)) = true from by unfold badA; rw [decide_eq_true_iff]; exact fun z => c (hd.2 z))]
      refine evn c ?_
      exact tok_end s p n hp 2 40 q h0 rfl
  refine Ev.step (fun k => by rw [regimenref12_One.j4]) ?_
  refine Ev.bind (at_ok12 s (p + n)) ?_
  by_cases c : atv (numsOf s) (p + n) ≥ 1
  · refine evp c ?_
    refine Ev.bind (at_ok12 s (p + n)) (j5 _ ?_)
    rw [decide_eq_true_iff]
    omega
  · refine evn c (j5 _ ?_)
    simp only [Bool.false_eq_true, false_iff]
    omega
theorem room12 {L p n m : Nat} (h : m ≤ L - (p + (n + 1))) (k : p + n < L) : p + (n + 1 + m) ≤ L := by omega
theorem ref_number (s : ByteArray) (hs : s.size < 1000000) (p : Nat) (hp : p < s.size) (hd : atv ((numsOf s).drop p) 0 = 2) (a : Int) (b : ByteArray) (q : Int × Int) :
    Ev (fun k => regimenref12_One.l1 k s (p : Int) (p : Int) a b q.1 q.2) (refV p (tokV 2 (strOfNums (((numsOf s).drop p).take (numV ((numsOf s).drop p)))) (numV ((numsOf s).drop p) : Int) 40) q) := by
  have hl := nums_len s
  have ld : ((numsOf s).drop p).length = s.size - p := by rw [List.length_drop]; omega
  have rl := runC_le digB ((numsOf s).drop p)
  have r0 : runC digB ((numsOf s).drop p) ≠ 0 := by
    rw [atv_drop, Nat.add_zero] at hd
    have ha : atv (numsOf s) p = cls ((numsOf s).getD p 0) := if_pos (by omega)
    rw [runC_drop digB _ p (by omega), if_pos (by unfold digB; exact decide_eq_true (by rw [← ha]; exact hd))]
    omega
  generalize hn : runC digB ((numsOf s).drop p) = n at *
  have j2 : ¬ (1 < n ∧ (numsOf s).getD p 0 = 48) → Ev (fun k => regimenref12_One.j2 k s (p : Int) ((p + n : Nat) : Int) false a b q.1 q.2) (refV p (tokV 2 (strOfNums (((numsOf s).drop p).take (numV ((numsOf s).drop p)))) (numV ((numsOf s).drop p) : Int) 40) q) := by
    intro hz
    have e : numV ((numsOf s).drop p) = if atv ((numsOf s).drop p) n = 4 then
        (if runC digB (((numsOf s).drop p).drop (n + 1)) = 0 then 0 else if badA (atv ((numsOf s).drop p) (n + 1 + runC digB (((numsOf s).drop p).drop (n + 1)))) = true then 0 else n + 1 + runC digB (((numsOf s).drop p).drop (n + 1)))
      else if badA (atv ((numsOf s).drop p) n) = true then 0 else n := by
      unfold numV
      rw [hn, getD_drop, Nat.add_zero, if_neg hz]
    rw [e]
    refine Ev.step (fun k => by rw [regimenref12_One.j2]) ?_
    refine evn (by simp) ?_
    refine Ev.bind (at_ok12 s (p + n)) ?_
    have e4 : atv ((numsOf s).drop p) n = atv (numsOf s) (p + n) := atv_drop _ _ _
    by_cases c : atv (numsOf s) (p + n) = 4
    · have lt := atv_pos (l := numsOf s) (i := p + n) (by omega)
      rw [if_pos (by rw [e4]; exact c), List.drop_drop]
      refine evp c ?_
      have m0 : atv (numsOf s) (p + (n + 1)) = 2 ↔ runC digB ((numsOf s).drop (p + (n + 1))) ≠ 0 := by
        by_cases z : p + (n + 1) < (numsOf s).length
        · rw [runC_drop digB _ _ z]
          have ha : atv (numsOf s) (p + (n + 1)) = cls ((numsOf s).getD (p + (n + 1)) 0) := if_pos z
          rw [ha]
          unfold digB
          by_cases y : cls ((numsOf s).getD (p + (n + 1)) 0) = 2
          · rw [if_pos (decide_eq_true y)]
            exact ⟨fun _ => by omega, fun _ => y⟩
          · rw [if_neg (by simpa using y)]
            exact ⟨fun h => absurd h y, fun h => absurd rfl h⟩
        · have ha : atv (numsOf s) (p + (n + 1)) = 0 := if_neg z
          rw [ha, List.drop_eq_nil_of_le (by omega)]
          simp [runC]
      have w : wrap64 (((p + n : Nat) : Int) + 1) = ((p + (n + 1) : Nat) : Int) := by rw [w64_succ (by omega), Nat.add_assoc]
      have rm := runC_le digB ((numsOf s).drop (p + (n + 1)))
      rw [List.length_drop] at rm
      rw [w]
      refine Ev.bind (at_ok12 s (p + (n + 1))) ?_
      generalize hm : runC digB ((numsOf s).drop (p + (n + 1))) = m at *
      by_cases z : m = 0
      · rw [if_pos z, refV_none (n := ((0 : Nat) : Int)) rfl]
        exact evn (fun y => m0.1 y z) (Ev.now _)
      · rw [if_neg z]
        refine evp (m0.2 z) ?_
        have room := room12 rm lt
        rw [hl] at room
        have nt := number_tail s hs p (n + 1 + m) room (Nat.ne_of_gt (Nat.lt_of_lt_of_le (Nat.succ_pos n) (Nat.le_add_right _ m))) a b q
        refine digs_loop s hs p (n + 1 + m) room (F := fun k x => regimenref12_One.l2 k s (p : Int) x a b q.1 q.2) (G := fun k x => regimenref12_One.j4 k s (p : Int) x a b q.1 q.2) (fun k x => by rw [regimenref12_One.l2]) nt m (n + 1) rfl hm
    · rw [if_neg (by rw [e4]; exact c)]
      refine evn c ?_
      exact number_tail s hs p n (by omega) r0 a b q
  have l1 := digs_loop s hs p n (by omega) (F := fun k x => regimenref12_One.l1 k s (p : Int) x a b q.1 q.2) (G := fun k x => if (wrap64 (x - (p : Int))) > 1 then (if 0 ≤ (p : Int) then (if (p : Int) < (s.size : Int) then (regimenref12_One.j2 k s (p : Int) x ((bt s (p : Int)) == 48) a b q.1 q.2) else (none)) else (none)) else (regimenref12_One.j2 k s (p : Int) x false a b q.1 q.2)) (R := refV p (tokV 2 (strOfNums (((numsOf s).drop p).take (numV ((numsOf s).drop p)))) (numV ((numsOf s).drop p) : Int) 40) q) (fun k x => by rw [regimenref12_One.l1]) ?_ n 0 (by omega) (by rw [Nat.add_zero]; exact hn)
  · rw [Nat.add_zero] at l1
    exact l1
  · have w : wrap64 (((p + n : Nat) : Int) - (p : Int)) = (n : Int) := by
      rw [w64_id (by omega) (by omega)]
      omega
    rw [w]
    by_cases c : (n : Int) > 1
    · refine evp c ?_
      refine evp (by omega) ?_
      refine evp (by omega) ?_
      rw [bt_nums]
      by_cases d : (numsOf s).getD p 0 = 48
      · rw [show ((numsOf s).getD p 0 == 48) = true from by rw [beq_iff_eq]; exact d]
        have e : numV ((numsOf s).drop p) = 0 := by
          unfold numV
          rw [hn, getD_drop, Nat.add_zero, if_pos ⟨by omega, d⟩]
        rw [e, refV_none (n := ((0 : Nat) : Int)) rfl]
        refine Ev.step (fun k => by rw [regimenref12_One.j2]) ?_
        exact evp rfl (Ev.now _)
      · rw [show ((numsOf s).getD p 0 == 48) = false from by rw [beq_eq_false_iff_ne]; exact d]
        exact j2 (fun z => d z.2)
    · refine evn c ?_
      exact j2 (fun z => by omega)
theorem ref_one_ok (s : ByteArray) (hs : s.size < 1000000) (p : Nat) (hp : p < s.size) {R : ByteArray × Int} (hR : ReadV ((numsOf s).drop p) R) :
    Ev (fun k => regimenref12_One.f k s (p : Int)) (refV p (oneV ((numsOf s).drop p) R) (posv (1, 1) ((numsOf s).take p))) := by
  have hl := nums_len s
  have ld : ((numsOf s).drop p).length = s.size - p := by rw [List.length_drop]; omega
  have bd := hR.bd
  have e0 : atv ((numsOf s).drop p) 0 = atv (numsOf s) p := by rw [atv_drop, Nat.add_zero]
  unfold regimenref12_One.f oneV
  refine Ev.bind (pos_ok12 s hs p (by omega)) ?_
  refine Ev.bind (at_ok12 s p) ?_
  rw [e0]
  dsimp only
  by_cases c1 : atv (numsOf s) p = 1
  · rw [if_pos c1]
    refine evp c1 ?_
    have rl := runC_le inB ((numsOf s).drop p)
    have r0 : runC inB ((numsOf s).drop p) ≠ 0 := by
      have ha : atv (numsOf s) p = cls ((numsOf s).getD p 0) := if_pos (by omega)
      rw [runC_drop inB _ p (by omega), if_pos (by unfold inB; exact decide_eq_true (by rw [← ha]; omega))]
      omega
    have nl := name_loop s hs p (runC inB ((numsOf s).drop p)) rfl r0 (by omega) 0 ⟨#[]⟩ (posv (1, 1) ((numsOf s).take p)) (runC inB ((numsOf s).drop p)) 0 (by omega) (by rw [Nat.add_zero])
    rw [Nat.add_zero] at nl
    exact nl
  · rw [if_neg c1]
    refine evn c1 ?_
    by_cases c2 : atv (numsOf s) p = 2
    · rw [if_pos c2]
      refine evp c2 ?_
      exact ref_number s hs p hp (by rw [e0]; exact c2) 0 ⟨#[]⟩ (posv (1, 1) ((numsOf s).take p))
    · rw [if_neg c2]
      refine evn c2 ?_
      by_cases c5 : atv (numsOf s) p = 5
      · rw [if_neg (show ¬ atv (numsOf s) p = 6 by omega), if_pos c5]
        refine evp c5 ?_
        obtain ⟨x1, x2⟩ := ext_mid s p 1 (by omega)
        rw [w64_succ (by omega)]
        refine evp (by omega) ?_
        refine evp (by omega) ?_
        refine evp (by omega) ?_
        rw [Int.toNat_natCast, Int.toNat_natCast, ← x1]
        have E := refV_tok (p := p) (kind := 4) (text := s.extract p (p + 1)) (n := 1) (most := 1) (q := posv (1, 1) ((numsOf s).take p)) (by decide)
        rw [E.trans (if_neg (by omega)), show (p : Int) + 1 = ((p + 1 : Nat) : Int) from by omega]
        exact evn (by omega) (Ev.now _)
      · refine evn c5 ?_
        by_cases c6 : atv (numsOf s) p = 6
        · rw [if_pos c6]
          refine evp c6 ?_
          refine evp (by omega) ?_
          refine evp (by omega) ?_
          have r := ref_read_ok (s.extract p s.size) (by rw [← nums_len, nums_drop]; omega) (R := R) (by rw [nums_drop]; exact hR)
          rw [Int.toNat_natCast]
          refine Ev.bind r ?_
          by_cases z : R.2 = 0
          · rw [refV_none z]
            exact evp z (Ev.now _)
          · have E := refV_tok (p := p) (kind := 3) (text := R.1) (n := R.2) (most := 64) (q := posv (1, 1) ((numsOf s).take p)) z
            refine evn z ?_
            by_cases y : (R.1.size : Int) > 64
            · rw [E.trans (if_pos y)]
              exact evp y (Ev.now _)
            · rw [E.trans (if_neg y)]
              refine evn y ?_
              rw [w64_id (by omega) (by omega)]
              exact Ev.now _
        · rw [if_neg c6, if_neg c5]
          refine evn c6 ?_
          exact Ev.now _
/-! ### All tokens -/
theorem ref_tokens_loop (s : ByteArray) (hs : s.size < 1000000) {p : Nat} {acc : List S34} {Z : List S34 × Int × Int × Int} (h : TokR (numsOf s) p acc Z) : acc.length ≤ 4000 → p ≤ s.size →
    Ev (fun k => regimenref12_Tokens.l0 k s acc (p : Int)) Z := by
  have hl := nums_len s
  induction h with
  | fin p acc h =>
    intro ha hp
    refine Ev.step (fun k => by rw [regimenref12_Tokens.l0]) ?_
    refine evn (by omega) ?_
    refine Ev.bind (pos_ok12 s hs p hp) ?_
    refine evp (by omega) ?_
    exact Ev.now _
  | err p acc R h hr he =>
    intro ha hp
    have o := ref_one_ok s hs p (by omega) hr
    unfold refV at o
    refine Ev.step (fun k => by rw [regimenref12_Tokens.l0]) ?_
    refine evp (by omega) ?_
    refine Ev.bind o ?_
    by_cases c : (oneV ((numsOf s).drop p) R).2.2.2 = 0
    · have full : acc.length = 4000 := by
        rcases Classical.em (acc.length = 4000) with q | q
        · exact q
        · exfalso
          unfold errE at he
          rw [if_neg (fun z => q z.2)] at he
          exact he c
      rw [if_pos c]
      refine evp rfl ?_
      refine Ev.step (fun k => by rw [regimenref12_Tokens.j1]) ?_
      refine evp (by rw [beq_iff_eq]; omega) ?_
      refine Ev.step (fun k => by rw [regimenref12_Tokens.j2]) ?_
      refine evn (by omega) ?_
      refine Ev.bind (pos_ok12 s hs p hp) ?_
      rw [show errE acc (oneV ((numsOf s).drop p) R) = 9 from if_pos ⟨c, full⟩]
      exact Ev.now _
    · rw [if_neg c]
      refine evn c ?_
      refine Ev.step (fun k => by rw [regimenref12_Tokens.j1]) ?_
      refine evn (by simp) ?_
      refine Ev.step (fun k => by rw [regimenref12_Tokens.j2]) ?_
      refine evn c ?_
      refine Ev.bind (pos_ok12 s hs p hp) ?_
      rw [show errE acc (oneV ((numsOf s).drop p) R) = (oneV ((numsOf s).drop p) R).2.2.2 from if_neg (fun z => c z.1)]
      exact Ev.now _
  | step p acc R n g Z h hr he hn hg r ih =>
    intro ha hp
    obtain ⟨c, nf⟩ := errE_zero he
    have ln : ((numsOf s).drop p).length = s.size - p := by rw [List.length_drop]; omega
    have nn := oneV_n hr c
    have gl := hg.le
    rw [List.length_drop] at gl
    have o := ref_one_ok s hs p (by omega) hr
    unfold refV at o
    rw [if_pos c, hn, show (p : Int) + (n : Int) = ((p + n : Nat) : Int) from by omega] at o
    refine Ev.step (fun k => by rw [regimenref12_Tokens.l0]) ?_
    refine evp (by omega) ?_
    refine Ev.bind o ?_
    refine evp rfl ?_
    refine Ev.step (fun k => by rw [regimenref12_Tokens.j1]) ?_
    refine evn (by rw [beq_iff_eq]; omega) ?_
    refine Ev.step (fun k => by rw [regimenref12_Tokens.j2]) ?_
    refine evp rfl ?_
    refine evp (by omega) ?_
    have gp := ref_gap_ok s hs hg (p + n) (by omega) rfl
    unfold regimenref12_Gap.f
    refine Ev.bind gp ?_
    exact ih (by rw [List.length_append, List.length_singleton]; omega) (by omega)
theorem ref_tokens_ok (s : ByteArray) (hs : s.size ≤ 65536) {g : Nat} {Z : List S34 × Int × Int × Int} (hg : GapR (numsOf s) g) (h : TokR (numsOf s) g [] Z) : Ev (fun k => regimenref12_Tokens.f k s) Z := by
  have hl := nums_len s
  have gl := hg.le
  unfold regimenref12_Tokens.f
  refine evn (by omega) ?_
  have gp := ref_gap_ok s (by omega) hg 0 (by omega) (by rw [List.drop_zero])
  rw [Nat.zero_add] at gp
  unfold regimenref12_Gap.f
  refine Ev.bind gp ?_
  exact ref_tokens_loop s (by omega) h (by simp) (by omega)
theorem same12_loop (l : List S34) (hl : l.length < 1000000) (e : Nat) : ∀ i : Nat, i + e = l.length → Ev (fun k => regimenref12_Same.l0 k l l (i : Int)) true := by
  induction e with
  | zero =>
    intro i h
    refine Ev.step (fun k => by rw [regimenref12_Same.l0]) ?_
    exact evn (by omega) (Ev.now _)
  | succ e ih =>
    intro i h
    refine Ev.step (fun k => by rw [regimenref12_Same.l0]) ?_
    refine evp (by omega) ?_
    refine evp (by omega) ?_
    refine evp (by omega) ?_
    refine evn (by simp) ?_
    rw [w64_succ (by omega)]
    exact ih (i + 1) (by omega)
theorem same12_ok (l : List S34) (hl : l.length < 1000000) : Ev (fun k => regimenref12_Same.f k l l) true := by
  unfold regimenref12_Same.f
  refine evp rfl ?_
  exact same12_loop l hl l.length 0 (by omega)
end Go.Proofs.Ytnmmhfpekeeedaa.Num
