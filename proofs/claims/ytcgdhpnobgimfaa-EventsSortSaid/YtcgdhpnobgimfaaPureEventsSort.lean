/- Any events in order, whether they rise, and the items of any kind: for all events. -/
import Derived.Test.YtcgdhpnobgimfaaPZx0
import Derived.Test.YtcgdhpnobgimfaaPZx3
import Derived.Test.YtcgdhpnobgimfaaPZx4
import Derived.Test.YtcgdhpnobgimfaaPZx5
import Derived.Test.YtcgdhpnobgimfaaPZx6
import Derived.Test.YtcgdhpnobgimfaaPZx7
import Derived.Test.YtcgdhpnobgimfaaPZx8
import Derived.Test.YtcgdhpnobgimfaaZDigits
namespace Go.Proofs.Ytcgdhpnobgimfaa.Pure
set_option linter.unusedVariables false
set_option linter.unusedSimpArgs false
open Go.RowKit Go.Proofs.Ytcgdhpnobgimfaa.PZ Go.Proofs.Ytcgdhpnobgimfaa.Num Go.Proofs.YtcgdhpnobgimfaaW.PrintWords Go.Proofs.YtcgdhpnobgimfaaW.PrintLast Go.Proofs.YtcgdhpnobgimfaaW.PrintMore

abbrev Evt := S23
def zE : Evt := z23
theorem awake36s : Ev (fun k => regimenlaw36_awake.f k) true := Ev.of (fun k => regimenlaw36_awake.mono k) (k := 80) (by decide +kernel)
def elt (x y : Evt) : Prop := events_Sort.lt x y
instance (x y : Evt) : Decidable (elt x y) := by unfold elt; infer_instance
theorem ahead_ok (a b : Evt) : regimenref36_Ahead.f a.f0 a.f1 a.f2 b.f0 b.f1 b.f2 = some (decide (elt a b)) := by
  unfold regimenref36_Ahead.f elt events_Sort.lt
  split
  · split
    · exact congrArg some (decide_eq_decide.2 (by omega))
    · exact congrArg some (decide_eq_decide.2 (by omega))
  · exact congrArg some (decide_eq_decide.2 (by omega))
theorem elt_irrefl (x : Evt) : ¬ elt x x := by unfold elt events_Sort.lt; omega
theorem elt_tot {x y : Evt} (h1 : ¬ elt x y) (h2 : ¬ elt y x) : x = y := by
  obtain ⟨x0, x1, x2⟩ := x
  obtain ⟨y0, y1, y2⟩ := y
  unfold elt events_Sort.lt at *
  dsimp only at h1 h2
  obtain rfl : x0 = y0 := by omega
  obtain rfl : x1 = y1 := by omega
  obtain rfl : x2 = y2 := by omega
  rfl
theorem ele_trans {x y z : Evt} (h1 : ¬ elt y x) (h2 : ¬ elt z y) : ¬ elt z x := by unfold elt events_Sort.lt at *; omega
theorem elt_le {x y z : Evt} (h1 : elt x y) (h2 : ¬ elt z y) : elt x z := by unfold elt events_Sort.lt at *; omega
theorem elt_asym {x y : Evt} (h1 : elt x y) : ¬ elt y x := by unfold elt events_Sort.lt at *; omega
theorem le_iff (x y : Evt) : events_Sort.le x y = true ↔ ¬ elt y x := by
  unfold events_Sort.le elt
  rw [events_Sort.cf_lt]
  simp
theorem compare_ok (x y : Evt) : Ev (fun k => events_compare.f k x.f0 x.f1 x.f2 y.f0 y.f1 y.f2) (events_Sort.cf x y) := by
  refine Ev.of (fun k => events_compare.mono _ _ _ _ _ _ k) (k := 9) ?_
  unfold events_compare.f
  rw [events_Sort.cmp_f, Option.bind_some, events_Sort.cmp_f, Option.bind_some, events_Sort.cmp_f, Option.bind_some, events_Sort.or_f, Option.bind_some, events_Sort.three]
theorem cf_ge (x y : Evt) : events_Sort.cf x y ≥ 0 ↔ ¬ elt x y := by
  have h := decide_eq_decide.1 (events_Sort.cf_lt x y)
  unfold elt
  refine ⟨fun q e => ?_, fun q => ?_⟩
  · have := h.2 e
    omega
  · by_cases c : events_Sort.cf x y < 0
    · exact absurd (h.1 c) q
    · omega
theorem rd_evt (l : List Evt) (i : Nat) : rd_T23 l (i : Int) = l.getD i zE := by unfold rd_T23; rw [Int.toNat_natCast]; rfl
theorem getD_at (l : List Evt) (i : Nat) (h : i < l.length) : l.getD i zE = l[i] := by rw [List.getD_eq_getElem?_getD, List.getElem?_eq_getElem h]; rfl
/-- Each one is no later than the next ones. -/
def inOrder (l : List Evt) : Prop := l.Pairwise fun x y => ¬ elt y x
theorem inOrder_eq {a b : List Evt} (ha : inOrder a) (hb : inOrder b) (hp : a.Perm b) : a = b := List.Perm.eq_of_pairwise (fun x y _ _ h1 h2 => elt_tot h2 h1) ha hb hp
theorem sorted_ok (l : List Evt) : inOrder (l.mergeSort events_Sort.le) := by
  have h := List.pairwise_mergeSort (le := events_Sort.le) (fun a b c h1 h2 => (le_iff a c).2 (ele_trans ((le_iff a b).1 h1) ((le_iff b c).1 h2))) (fun a b => by
    rw [Bool.or_eq_true, le_iff, le_iff]
    by_cases c : elt b a
    · exact .inr (elt_asym c)
    · exact .inl c) l
  exact h.imp fun {a b} q => (le_iff a b).1 q
theorem mem_take_at {l : List Evt} {n : Nat} {x : Evt} (h : x ∈ l.take n) : ∃ j, j < n ∧ j < l.length ∧ l.getD j zE = x := by
  obtain ⟨j, hj, rfl⟩ := List.mem_iff_getElem.1 h
  have h1 : j < n ∧ j < l.length := by rw [List.length_take] at hj; omega
  exact ⟨j, h1.1, h1.2, by rw [getD_at l j h1.2, List.getElem_take]⟩
theorem mem_drop_at {l : List Evt} {n : Nat} {x : Evt} (h : x ∈ l.drop n) : ∃ j, n ≤ j ∧ j < l.length ∧ l.getD j zE = x := by
  obtain ⟨j, hj, rfl⟩ := List.mem_iff_getElem.1 h
  have h1 : n + j < l.length := by rw [List.length_drop] at hj; omega
  exact ⟨n + j, by omega, h1, by rw [getD_at l (n + j) h1, List.getElem_drop]⟩
theorem inOrder_at {l : List Evt} (h : inOrder l) {i j : Nat} (hij : i ≤ j) (hj : j < l.length) : ¬ elt (l.getD j zE) (l.getD i zE) := by
  by_cases c : i = j
  · rw [c]
    exact elt_irrefl _
  · rw [getD_at l j hj, getD_at l i (by omega)]
    exact List.pairwise_iff_getElem.1 h i j (by omega) hj (by omega)
theorem put_order {l : List Evt} (h : inOrder l) (a : Evt) (n : Nat) (hn : n ≤ l.length) (h1 : ∀ j, j < n → ¬ elt a (l.getD j zE)) (h2 : n < l.length → elt a (l.getD n zE)) : inOrder (l.take n ++ [a] ++ l.drop n) := by
  have hs : (l.take n ++ l.drop n).Pairwise (fun x y => ¬ elt y x) := by rw [List.take_append_drop]; exact h
  obtain ⟨p1, p2, p3⟩ := List.pairwise_append.1 hs
  have ha : ∀ b, b ∈ l.drop n → elt a b := by
    intro b hb
    obtain ⟨j, hj, hl, rfl⟩ := mem_drop_at hb
    exact elt_le (h2 (by omega)) (inOrder_at h hj hl)
  show (l.take n ++ [a] ++ l.drop n).Pairwise (fun x y => ¬ elt y x)
  rw [List.append_assoc]
  refine List.pairwise_append.2 ⟨p1, List.pairwise_cons.2 ⟨fun b hb => elt_asym (ha b hb), p2⟩, fun x hx y hy => ?_⟩
  rcases List.mem_cons.1 hy with rfl | hy
  · obtain ⟨j, hj, hl, rfl⟩ := mem_take_at hx
    exact h1 j hj
  · exact p3 x hx y hy
theorem ref_inner (l out : List Evt) (hl : l.length ≤ 60) (ho : out.length ≤ 60) (i : Nat) (hi : i < l.length) (R : List Evt)
    (H : ∀ n, n ≤ out.length → (∀ j, j < n → ¬ elt (l.getD i zE) (out.getD j zE)) → (n < out.length → elt (l.getD i zE) (out.getD n zE)) → Ev (fun k => regimenref36_Sort.l0 k l (out.take n ++ [l.getD i zE] ++ out.drop n) ((i + 1 : Nat) : Int)) R) (m : Nat) :
    ∀ n, m ≤ n → n ≤ out.length → (∀ j, m ≤ j → j < n → ¬ elt (l.getD i zE) (out.getD j zE)) → (n < out.length → elt (l.getD i zE) (out.getD n zE)) →
      Ev (fun k => regimenref36_Sort.l1 k l out (i : Int) (n : Int) ((m : Int) - 1)) R := by
  induction m with
  | zero =>
    intro n _ hn h1 h2
    have h := H n hn (fun j hj => h1 j (by omega) hj) h2
    refine Ev.step (fun k => by rw [regimenref36_Sort.l1]) ?_
    refine evn (by omega) ?_
    have e1 : ((n : Int)).toNat = n := Int.toNat_natCast n
    refine evs rfl ?_
    refine evp (by omega) ?_
    refine evp (by omega) ?_
    refine evs rfl ?_
    refine evp (by simp; omega) ?_
    refine evs rfl ?_
    refine evs rfl ?_
    refine evs rfl ?_
    refine evp (by simp; omega) ?_
    refine evs rfl ?_
    refine evp (by omega) ?_
    refine evp (by omega) ?_
    refine evs rfl ?_
    refine evp (by simp; omega) ?_
    refine evs rfl ?_
    refine evp (by simp; omega) ?_
    rw [e1, rd_evt, w64_succ (by omega), List.nil_append, List.nil_append]
    exact h
  | succ m ih =>
    intro n hm hn h1 h2
    refine Ev.step (fun k => by rw [regimenref36_Sort.l1]) ?_
    rw [show ((m + 1 : Nat) : Int) - 1 = (m : Int) from by omega]
    refine evp (by omega) ?_
    refine evp (by omega) ?_
    refine evp (by omega) ?_
    refine evp (by omega) ?_
    refine evp (by omega) ?_
    rw [rd_evt, rd_evt, show wrap64 ((m : Int) - 1) = (m : Int) - 1 from w64_id (by omega) (by omega)]
    refine evs (ahead_ok _ _) ?_
    by_cases c : elt (l.getD i zE) (out.getD m zE)
    · refine evp (decide_eq_true c) ?_
      exact ih m (Nat.le_refl _) (by omega) (fun j h3 h4 => by omega) (fun _ => c)
    · refine evn (by simpa using c) ?_
      refine ih n (by omega) hn (fun j h3 h4 => ?_) h2
      by_cases e : j = m
      · rw [e]
        exact c
      · exact h1 j (by omega) h4
theorem ref_outer (l : List Evt) (hl : l.length ≤ 60) (d : Nat) : ∀ (i : Nat) (out : List Evt), i + d = l.length → inOrder out → out.Perm (l.take i) → Ev (fun k => regimenref36_Sort.l0 k l out (i : Int)) (l.mergeSort events_Sort.le) := by
  induction d with
  | zero =>
    intro i out h ho hp
    refine Ev.step (fun k => by rw [regimenref36_Sort.l0]) ?_
    refine evn (by omega) ?_
    have e : out = l.mergeSort events_Sort.le := by
      refine inOrder_eq ho (sorted_ok l) ?_
      rw [List.take_of_length_le (by omega)] at hp
      exact hp.trans (List.mergeSort_perm l _).symm
    rw [e]
    exact Ev.now _
  | succ d ih =>
    intro i out h ho hp
    have hlen : out.length = i := by rw [hp.length_eq, List.length_take]; omega
    refine Ev.step (fun k => by rw [regimenref36_Sort.l0]) ?_
    refine evp (by omega) ?_
    rw [show wrap64 ((out.length : Int) - 1) = (out.length : Int) - 1 from w64_id (by omega) (by omega)]
    refine ref_inner l out hl (by omega) i (by omega) _ (fun n hn h1 h2 => ?_) out.length out.length (Nat.le_refl _) (Nat.le_refl _) (fun j h3 h4 => by omega) (fun q => by omega)
    refine ih (i + 1) _ (by omega) (put_order ho _ n hn h1 h2) ?_
    rw [List.append_assoc, List.singleton_append]
    refine List.perm_middle.trans ?_
    rw [List.take_append_drop, List.take_add_one, List.getElem?_eq_getElem (by omega), ← getD_at l i (by omega)]
    exact (hp.cons _).trans (List.perm_append_singleton _ _).symm
theorem ref_sort_ok (l : List Evt) (hl : l.length ≤ 60) : Ev (fun k => regimenref36_Sort.f k l) (l.mergeSort events_Sort.le) := by
  unfold regimenref36_Sort.f
  exact ref_outer l hl l.length 0 [] (by omega) List.Pairwise.nil (by rw [List.take_zero])
theorem same_l0 (l : List Evt) (hl : l.length ≤ 60) (m : Nat) : ∀ i, i + m = l.length → Ev (fun k => regimenref27_Same.l0 k l l (i : Int)) true := by
  induction m with
  | zero =>
    intro i h
    refine Ev.step (fun k => by rw [regimenref27_Same.l0]) ?_
    exact evn (by omega) (Ev.now _)
  | succ m ih =>
    intro i h
    refine Ev.step (fun k => by rw [regimenref27_Same.l0]) ?_
    refine evp (by omega) ?_
    refine evp (by omega) ?_
    refine evp (by omega) ?_
    refine evn (by simp) ?_
    rw [w64_succ (by omega)]
    exact ih (i + 1) (by omega)
theorem same_ok (l : List Evt) (hl : l.length ≤ 60) : Ev (fun k => regimenref27_Same.f k l l) true := by
  unfold regimenref27_Same.f
  refine evp rfl ?_
  exact same_l0 l hl l.length 0 (by omega)
theorem samei_l0 (l : List Int) (hl : l.length ≤ 60) (m : Nat) : ∀ i, i + m = l.length → Ev (fun k => regimenref01_Same.l0 k l l (i : Int)) true := by
  induction m with
  | zero =>
    intro i h
    refine Ev.step (fun k => by rw [regimenref01_Same.l0]) ?_
    exact evn (by omega) (Ev.now _)
  | succ m ih =>
    intro i h
    refine Ev.step (fun k => by rw [regimenref01_Same.l0]) ?_
    refine evp (by omega) ?_
    refine evp (by omega) ?_
    refine evp (by omega) ?_
    refine evp rfl ?_
    rw [w64_succ (by omega)]
    exact ih (i + 1) (by omega)
theorem samei_ok (l : List Int) (hl : l.length ≤ 60) : Ev (fun k => regimenref01_Same.f k l l) true := by
  unfold regimenref01_Same.f
  refine evp rfl ?_
  exact samei_l0 l hl l.length 0 (by omega)
/-- The items of a kind. -/
def itemsOf (c : Int) (l : List Evt) : List Int := l.flatMap fun x => if x.f1 = c then [x.f2] else []
theorem items_le (c : Int) (l : List Evt) : (itemsOf c l).length ≤ l.length := by
  induction l with
  | nil => simp [itemsOf]
  | cons a t ih =>
    unfold itemsOf at *
    rw [List.flatMap_cons, List.length_append, List.length_cons]
    split
    · rw [List.length_singleton]
      omega
    · rw [List.length_nil]
      omega
theorem items_succ (c : Int) (l : List Evt) (i : Nat) (h : i < l.length) : itemsOf c (l.take (i + 1)) = itemsOf c (l.take i) ++ if (l.getD i zE).f1 = c then [(l.getD i zE).f2] else [] := by
  rw [List.take_add_one, List.getElem?_eq_getElem h, ← getD_at l i h]
  unfold itemsOf
  rw [List.flatMap_append]
  simp
theorem of_l0 (c : Int) (l : List Evt) (hl : l.length ≤ 60) (d : Nat) : ∀ i, i + d = l.length → Ev (fun k => events_Of.l0 k c (itemsOf c (l.take i)) l (l.length : Int) (i : Int)) (itemsOf c l) := by
  induction d with
  | zero =>
    intro i h
    refine Ev.step (fun k => by rw [events_Of.l0]) ?_
    refine evn (by omega) ?_
    rw [List.take_of_length_le (by omega)]
    exact Ev.now _
  | succ d ih =>
    intro i h
    have g := ih (i + 1) (by omega)
    rw [items_succ c l i (by omega)] at g
    refine Ev.step (fun k => by rw [events_Of.l0]) ?_
    refine evp (by omega) ?_
    refine evp (by omega) ?_
    refine evp (by omega) ?_
    rw [rd_evt, w64_succ (by omega)]
    by_cases e : (l.getD i zE).f1 = c
    · rw [if_pos e] at g
      refine evp e ?_
      refine evp ?_ g
      have := items_le c (l.take i)
      rw [List.length_take] at this
      omega
    · rw [if_neg e, List.append_nil] at g
      exact evn e g
theorem of_ok (c : Int) (l : List Evt) (hl : l.length ≤ 60) : Ev (fun k => events_Of.f k l c) (itemsOf c l) := by
  unfold events_Of.f
  exact of_l0 c l hl l.length 0 (by omega)
/-- Do the first ones rise? -/
def rises (l : List Evt) : Nat → Bool
  | 0 => true
  | i + 1 => rises l i && (decide (i = 0) || decide (elt (l.getD (i - 1) zE) (l.getD i zE)))
/-- Are two of the first ones, one behind the other, the same? -/
def twins (l : List Evt) : Nat → Bool
  | 0 => false
  | i + 1 => twins l i || (decide (0 < i) && ((l.getD i zE).f0 == (l.getD (i - 1) zE).f0 && ((l.getD i zE).f1 == (l.getD (i - 1) zE).f1 && (l.getD i zE).f2 == (l.getD (i - 1) zE).f2)))
theorem rises_back (l : List Evt) (d : Nat) : ∀ i, rises l i = false → rises l (i + d) = false := by
  induction d with
  | zero => exact fun i h => h
  | succ d ih =>
    intro i h
    rw [show i + (d + 1) = i + d + 1 from by omega]
    unfold rises
    rw [ih i h]
    rfl
theorem rise_l0 (l : List Evt) (hl : l.length ≤ 60) (d : Nat) : ∀ i, i + d = l.length → rises l i = true → Ev (fun k => events_Rise.l0 k l (l.length : Int) (i : Int)) (rises l l.length) := by
  induction d with
  | zero =>
    intro i h hr
    refine Ev.step (fun k => by rw [events_Rise.l0]) ?_
    refine evn (by omega) ?_
    rw [show l.length = i from by omega, hr]
    exact Ev.now _
  | succ d ih =>
    intro i h hr
    refine Ev.step (fun k => by rw [events_Rise.l0]) ?_
    refine evp (by omega) ?_
    rw [w64_succ (by omega)]
    by_cases c : i = 0
    · refine evn (by omega) ?_
      refine ih (i + 1) (by omega) ?_
      unfold rises
      rw [hr, decide_eq_true c]
      rfl
    · refine evp (by omega) ?_
      rw [show wrap64 ((i : Int) - 1) = ((i - 1 : Nat) : Int) from by rw [w64_id (by omega) (by omega)]; omega]
      refine evp (by omega) ?_
      refine evp (by omega) ?_
      refine evp (by omega) ?_
      refine evp (by omega) ?_
      rw [rd_evt, rd_evt]
      refine Ev.bind (compare_ok _ _) ?_
      by_cases e : elt (l.getD (i - 1) zE) (l.getD i zE)
      · refine evn (fun q => (cf_ge _ _).1 q e) ?_
        refine ih (i + 1) (by omega) ?_
        unfold rises
        rw [hr, decide_eq_true e, Bool.or_true]
        rfl
      · refine evp ((cf_ge _ _).2 e) ?_
        have hf : rises l (i + 1) = false := by
          unfold rises
          rw [hr, decide_eq_false e, decide_eq_false c]
          rfl
        have hb := rises_back l d (i + 1) hf
        rw [show i + 1 + d = l.length from by omega] at hb
        rw [hb]
        exact Ev.now _
theorem rise_ok (l : List Evt) (hl : l.length ≤ 60) : Ev (fun k => events_Rise.f k l) (rises l l.length) := by
  unfold events_Rise.f
  exact rise_l0 l hl l.length 0 (by omega) rfl
instance : DecidableEq Evt := fun x y => decidable_of_iff (x.f0 = y.f0 ∧ x.f1 = y.f1 ∧ x.f2 = y.f2) (by
  obtain ⟨x0, x1, x2⟩ := x
  obtain ⟨y0, y1, y2⟩ := y
  simp)
theorem same3 (x y : Evt) : (x.f0 == y.f0 && (x.f1 == y.f1 && x.f2 == y.f2)) = decide (x = y) := by
  obtain ⟨x0, x1, x2⟩ := x
  obtain ⟨y0, y1, y2⟩ := y
  rw [Bool.eq_iff_iff]
  simp
theorem rises_sorted (l : List Evt) (h : inOrder l) : ∀ i, i ≤ l.length → rises l i = !(twins l i) := by
  intro i
  induction i with
  | zero => intro _; rfl
  | succ i ih =>
    intro hi
    unfold rises twins
    rw [ih (by omega), same3, Bool.not_or]
    congr 1
    by_cases c : i = 0
    · rw [decide_eq_true c, decide_eq_false (by omega : ¬ 0 < i)]
      rfl
    · rw [decide_eq_false c, decide_eq_true (by omega : 0 < i), Bool.false_or, Bool.true_and]
      have g := inOrder_at h (i := i - 1) (j := i) (by omega) (by omega)
      by_cases e : l.getD i zE = l.getD (i - 1) zE
      · rw [decide_eq_true e, e]
        exact decide_eq_false (elt_irrefl _)
      · rw [decide_eq_false e]
        refine decide_eq_true (Classical.byContradiction fun q => e (elt_tot g q))
theorem law_loop (l : List Evt) (c : Int) (hl : l.length ≤ 60) (s : List Evt) (hs : inOrder s) (hsl : s.length = l.length) (d : Nat) :
    ∀ i, i + d = l.length → Ev (fun k => regimenlaw36_EventsSort.l0 k l c s s (rises l i) (twins s i) (itemsOf c (l.take i)) (i : Int)) true := by
  induction d with
  | zero =>
    intro i h
    refine Ev.step (fun k => by rw [regimenlaw36_EventsSort.l0]) ?_
    refine evn (by omega) ?_
    rw [List.take_of_length_le (by omega), show i = l.length from by omega]
    refine Ev.bind (of_ok c l hl) ?_
    refine Ev.bind (samei_ok _ (Nat.le_trans (items_le c l) hl)) ?_
    refine evp rfl ?_
    refine Ev.bind (rise_ok l hl) ?_
    refine evp (by simp) ?_
    refine Ev.bind (rise_ok s (by omega)) ?_
    refine evp (by rw [rises_sorted s hs s.length (Nat.le_refl _), hsl]; simp) ?_
    exact Ev.bind awake36s (Ev.now _)
  | succ d ih =>
    intro i h
    have g := ih (i + 1) (by omega)
    have hr : rises l (i + 1) = (rises l i && (decide (i = 0) || decide (elt (l.getD (i - 1) zE) (l.getD i zE)))) := rfl
    have ht : twins s (i + 1) = (twins s i || (decide (0 < i) && ((s.getD i zE).f0 == (s.getD (i - 1) zE).f0 && ((s.getD i zE).f1 == (s.getD (i - 1) zE).f1 && (s.getD i zE).f2 == (s.getD (i - 1) zE).f2)))) := rfl
    have j1 : Ev (fun k => regimenlaw36_EventsSort.j1 k l c s s (rises l i) (twins s i) (itemsOf c (l.take (i + 1))) (i : Int)) true := by
      refine Ev.step (fun k => by rw [regimenlaw36_EventsSort.j1]) ?_
      rw [w64_succ (by omega)]
      have wi : i ≠ 0 → wrap64 ((i : Int) - 1) = ((i - 1 : Nat) : Int) := fun q => by rw [w64_id (by omega) (by omega)]; omega
      by_cases R : rises l i = true
      · refine evp R ?_
        rw [R, Bool.true_and] at hr
        by_cases z : i = 0
        · refine evp (by omega) ?_
          rw [decide_eq_true z, Bool.true_or] at hr
          rw [hr] at g
          by_cases T : twins s i = true
          · rw [T, Bool.true_or] at ht
            rw [ht] at g
            exact evp T g
          · refine evn T ?_
            rw [Bool.eq_false_iff.2 T, Bool.false_or, decide_eq_false (by omega : ¬ 0 < i), Bool.false_and] at ht
            rw [ht] at g
            exact evn (by omega) g
        · refine evn (by omega) ?_
          rw [wi z]
          refine evp (by omega) ?_
          refine evp (by omega) ?_
          refine evp (by omega) ?_
          refine evp (by omega) ?_
          simp only [rd_evt]
          refine evs (ahead_ok _ _) ?_
          rw [decide_eq_false z, Bool.false_or] at hr
          rw [hr] at g
          by_cases T : twins s i = true
          · rw [T, Bool.true_or] at ht
            rw [ht] at g
            exact evp T g
          · refine evn T ?_
            rw [Bool.eq_false_iff.2 T, Bool.false_or, decide_eq_true (by omega : 0 < i), Bool.true_and] at ht
            rw [ht] at g
            refine evp (by omega) ?_
            refine evp (by omega) ?_
            refine evp (by omega) ?_
            exact g
      · refine evn R ?_
        rw [Bool.eq_false_iff.2 R, Bool.false_and] at hr
        rw [hr] at g
        by_cases T : twins s i = true
        · rw [T, Bool.true_or] at ht
          rw [ht] at g
          exact evp T g
        · refine evn T ?_
          by_cases z : i = 0
          · rw [Bool.eq_false_iff.2 T, Bool.false_or, decide_eq_false (by omega : ¬ 0 < i), Bool.false_and] at ht
            rw [ht] at g
            exact evn (by omega) g
          · rw [Bool.eq_false_iff.2 T, Bool.false_or, decide_eq_true (by omega : 0 < i), Bool.true_and] at ht
            rw [ht] at g
            rw [wi z]
            simp only [rd_evt]
            refine evp (by omega) ?_
            refine evp (by omega) ?_
            refine evp (by omega) ?_
            refine evp (by omega) ?_
            refine evp (by omega) ?_
            exact g
    refine Ev.step (fun k => by rw [regimenlaw36_EventsSort.l0]) ?_
    refine evp (by omega) ?_
    refine evp (by omega) ?_
    rw [rd_evt]
    rw [items_succ c l i (by omega)] at j1
    by_cases e : (l.getD i zE).f1 = c
    · rw [if_pos e] at j1
      refine evp e ?_
      refine evp ?_ j1
      have := items_le c (l.take i)
      rw [List.length_take] at this
      omega
    · rw [if_neg e, List.append_nil] at j1
      exact evn e j1
theorem EventsSort : regimenlaw36_EventsSort.Pure := by
  intro l c _ _
  refine Ev.rounds (r := true) ?_
  unfold regimenlaw36_EventsSort.f
  by_cases h : (l.length : Int) > 60
  · exact evp h (Ev.bind awake36s (Ev.now _))
  · refine evn h ?_
    have hl : l.length ≤ 60 := by omega
    have hsl : (l.mergeSort events_Sort.le).length = l.length := List.length_mergeSort l
    refine evs (by unfold events_Sort.f; rw [if_pos (by omega)]) ?_
    refine Ev.bind (ref_sort_ok l hl) ?_
    refine Ev.bind (same_ok _ (by omega)) ?_
    refine evp rfl ?_
    exact law_loop l c hl _ (sorted_ok l) hsl l.length 0 (by omega)
end Go.Proofs.Ytcgdhpnobgimfaa.Pure
