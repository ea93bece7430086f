/- When a run stops early (layer 30): the program's and the reference's watches, by value. -/
import Derived.Test.YtmakhhgfidgfdaaPHx4
import Derived.Test.YtmakhhgfidgfdaaPHx6
import Derived.Test.YtmakhhgfidgfdaaPHx10
import Derived.Test.YtmakhhgfidgfdaaHBetter
namespace Go.Proofs.Ytmakhhgfidgfdaa.Num
set_option linter.unusedVariables false
set_option linter.unusedSimpArgs false
open Go.RowKit Go.Proofs.Ytmakhhgfidgfdaa.PH Go.Proofs.YtmakhhgfidgfdaaW.PrintWords Go.Proofs.YtmakhhgfidgfdaaW.PrintMore

/-- A watch that took in a reading. -/
def etk (s : Bool × Int × Int) (x : Int) (m : Bool) (d : Int) (rel : Bool) : Bool × Int × Int :=
  if s.1 = true then (if isb x s.2.1 m d rel = true then (true, x, 0) else (true, s.2.1, mn (mx s.2.2 0) 1099511627775 + 1)) else (true, x, 0)
/-- The watch behind so many readings. -/
def est (l : List Int) (m : Bool) (d : Int) (rel : Bool) : Nat → Bool × Int × Int
  | 0 => (false, 0, 0)
  | i + 1 => etk (est l m d rel i) (l.getD i 0) m d rel
/-- Is this reading the first one, or better than the best when it came? -/
def emark (l : List Int) (m : Bool) (d : Int) (rel : Bool) (i : Nat) : Bool := decide (i = 0) || isb (l.getD i 0) (est l m d rel i).2.1 m d rel
def outs (s : Bool × Int × Int) (p : Int) : Bool := decide (p ≥ 1 ∧ s.2.2 ≥ p)
theorem getD_word {l : List Int} (h : ∀ x, x ∈ l → word x) (i : Nat) : word (l.getD i 0) := by
  rw [List.getD_eq_getElem?_getD]
  cases c : l[i]? with
  | none => exact ⟨by simp, by simp⟩
  | some v => exact h v (List.mem_of_getElem? c)
theorem etk_word {s : Bool × Int × Int} {x : Int} (m : Bool) (d : Int) (rel : Bool) (hs : word s.2.1) (hx : word x) : word (etk s x m d rel).2.1 := by
  unfold etk
  split
  · split
    · exact hx
    · exact hs
  · exact hx
theorem etk_has (s : Bool × Int × Int) (x : Int) (m : Bool) (d : Int) (rel : Bool) : (etk s x m d rel).1 = true := by
  unfold etk
  split
  · split <;> rfl
  · rfl
theorem est_word {l : List Int} (m : Bool) (d : Int) (rel : Bool) (h : ∀ x, x ∈ l → word x) (i : Nat) : word (est l m d rel i).2.1 := by
  induction i with
  | zero => exact ⟨by simp [est], by simp [est]⟩
  | succ i ih => exact etk_word m d rel ih (getD_word h i)
theorem est_mark (l : List Int) (m : Bool) (d : Int) (rel : Bool) (i : Nat) (hi : i < 1000000) : 0 ≤ (est l m d rel i).2.2 ∧ (est l m d rel i).2.2 ≤ i ∧ (emark l m d rel i = true → est l m d rel (i + 1) = (true, l.getD i 0, 0)) ∧ (emark l m d rel i = false → est l m d rel (i + 1) = (true, (est l m d rel i).2.1, (est l m d rel i).2.2 + 1)) := by
  have step : 0 ≤ (est l m d rel i).2.2 ∧ (est l m d rel i).2.2 ≤ i → (emark l m d rel i = true → est l m d rel (i + 1) = (true, l.getD i 0, 0)) ∧ (emark l m d rel i = false → est l m d rel (i + 1) = (true, (est l m d rel i).2.1, (est l m d rel i).2.2 + 1)) := by
    intro ⟨h0, h1⟩
    have hb : mn (mx (est l m d rel i).2.2 0) 1099511627775 = (est l m d rel i).2.2 := by
      unfold mn mx
      split <;> split <;> omega
    rw [show est l m d rel (i + 1) = etk (est l m d rel i) (l.getD i 0) m d rel from rfl]
    unfold emark etk
    rw [hb]
    cases i with
    | zero =>
      refine ⟨fun _ => ?_, fun h => ?_⟩
      · rw [if_neg (by simp [est])]
      · simp at h
    | succ j =>
      rw [if_pos (show (est l m d rel (j + 1)).1 = true from etk_has _ _ _ _ _)]
      refine ⟨fun h => ?_, fun h => ?_⟩
      · rw [if_pos (by simpa using h)]
      · rw [if_neg (by simpa using h)]
  have key : ∀ j : Nat, j < 1000000 → 0 ≤ (est l m d rel j).2.2 ∧ (est l m d rel j).2.2 ≤ j := by
    intro j
    induction j with
    | zero => intro _; exact ⟨by simp [est], by simp [est]⟩
    | succ j ih =>
      intro hj
      obtain ⟨a, b⟩ := ih (by omega)
      rw [show est l m d rel (j + 1) = etk (est l m d rel j) (l.getD j 0) m d rel from rfl]
      unfold etk mn mx
      split
      · split
        · exact ⟨by simp, by simp; omega⟩
        · refine ⟨?_, ?_⟩ <;> (dsimp only; split <;> split <;> omega)
      · exact ⟨by simp, by simp; omega⟩
  exact ⟨(key i hi).1, (key i hi).2, step (key i hi)⟩
theorem mark_zero (l : List Int) (m : Bool) (d : Int) (rel : Bool) : emark l m d rel 0 = true := by simp [emark]
/-- Out of patience: so many readings, one behind the other, were not better. -/
theorem bad_window (l : List Int) (m : Bool) (d : Int) (rel : Bool) (i : Nat) : ∀ p : Int, 1 ≤ p → i < 100000 → ((est l m d rel (i + 1)).2.2 ≥ p ↔ ((i : Int) ≥ p ∧ ∀ k : Nat, (k : Int) > (i : Int) - p → k ≤ i → emark l m d rel k = false)) := by
  induction i with
  | zero =>
    intro p hp _
    have h := (est_mark l m d rel 0 (by omega)).2.2.1 (mark_zero l m d rel)
    rw [h]
    refine ⟨fun q => ?_, fun q => ?_⟩
    · dsimp only at q
      omega
    · have := q.1
      omega
  | succ i ih =>
    intro p hp hi
    obtain ⟨b0, b1, h1, h2⟩ := est_mark l m d rel (i + 1) (by omega)
    by_cases c : emark l m d rel (i + 1) = true
    · rw [h1 c]
      refine ⟨fun q => ?_, fun q => ?_⟩
      · dsimp only at q
        omega
      · have := q.2 (i + 1) (by omega) (Nat.le_refl _)
        rw [c] at this
        cases this
    · have c : emark l m d rel (i + 1) = false := by simpa using c
      rw [h2 c]
      dsimp only
      by_cases p1 : p = 1
      · refine ⟨fun _ => ⟨by omega, fun k hk hk2 => ?_⟩, fun _ => by omega⟩
        rw [show k = i + 1 from by omega]
        exact c
      · have e := ih (p - 1) (by omega) (by omega)
        refine ⟨fun q => ?_, fun q => ?_⟩
        · obtain ⟨a, b⟩ := e.1 (by omega)
          refine ⟨by omega, fun k hk hk2 => ?_⟩
          by_cases ke : k = i + 1
          · rw [ke]
            exact c
          · exact b k (by omega) (by omega)
        · have := e.2 ⟨by omega, fun k hk hk2 => q.2 k (by omega) (by omega)⟩
          omega
/-- The first place from i on, among the next d. -/
def firstp (out : Nat → Bool) : Nat → Nat → Int
  | i, 0 => -1
  | i, d + 1 => if out i = true then (i : Int) else firstp out (i + 1) d
theorem firstp_at (out : Nat → Bool) (d : Nat) : ∀ i : Nat, (firstp out i d = -1 ∧ ∀ j, i ≤ j → j < i + d → out j = false) ∨ (∃ n : Nat, firstp out i d = (n : Int) ∧ i ≤ n ∧ n < i + d ∧ out n = true ∧ ∀ j, i ≤ j → j < n → out j = false) := by
  induction d with
  | zero => intro i; exact .inl ⟨rfl, fun j a b => by omega⟩
  | succ d ih =>
    intro i
    unfold firstp
    by_cases c : out i = true
    · rw [if_pos c]
      exact .inr ⟨i, rfl, Nat.le_refl _, by omega, c, fun j a b => by omega⟩
    · rw [if_neg c]
      have c : out i = false := by simpa using c
      rcases ih (i + 1) with ⟨a, b⟩ | ⟨n, a, b, e, f, g⟩
      · refine .inl ⟨a, fun j h1 h2 => ?_⟩
        by_cases q : j = i
        · rw [q]
          exact c
        · exact b j (by omega) (by omega)
      · refine .inr ⟨n, a, by omega, by omega, f, fun j h1 h2 => ?_⟩
        by_cases q : j = i
        · rw [q]
          exact c
        · exact g j (by omega) (by omega)
theorem take_ok (s : Bool × Int × Int) {x d : Int} (m rel : Bool) (hs : word s.2.1) (hx : word x) (hd : word d) : Ev (fun k => early_Take.f k s.1 s.2.1 s.2.2 x m d rel) (etk s x m d rel) := by
  obtain ⟨h, b, q⟩ := s
  unfold early_Take.f
  cases h
  · exact evn (by simp) (Ev.now _)
  · refine evp rfl ?_
    refine Ev.bind (is_ok m rel hx hs hd) ?_
    by_cases c : isb x b m d rel = true
    · refine evp c ?_
      refine Ev.congr (fun _ => ?_) (Ev.now _)
      simp [etk, c]
    · refine evn c ?_
      refine Ev.congr (fun _ => ?_) (Ev.now _)
      simp [etk, c]
theorem out_ok (h : Bool) (b q p : Int) : early_Out.f h b q p = some (outs (h, b, q) p) := by
  unfold early_Out.f outs
  by_cases c : p ≥ 1
  · rw [if_pos c]
    simp [c]
  · rw [if_neg c]
    simp [c]
theorem ref_take_ok (s : Bool × Int × Int) {x d : Int} (m rel : Bool) (hs : word s.2.1) (hq : word s.2.2) (hx : word x) (hd : word d) : Ev (fun k => regimenref30_Take.f k s.1 s.2.1 s.2.2 x m d rel) (etk s x m d rel) := by
  obtain ⟨h, b, q⟩ := s
  have q0 := hq.1
  have q1 := hq.2
  dsimp only at q0 q1
  unfold regimenref30_Take.f
  dsimp only
  cases h
  · refine evn (by simp) ?_
    refine Ev.step (fun k => by rw [regimenref30_Take.j0]) ?_
    exact evp rfl (Ev.now _)
  · refine evp rfl ?_
    refine Ev.bind (ref_is_ok m rel hx hs hd) ?_
    refine Ev.step (fun k => by rw [regimenref30_Take.j0]) ?_
    by_cases c : isb x b m d rel = true
    · refine evp c ?_
      refine Ev.congr (fun _ => ?_) (Ev.now _)
      simp [etk, c]
    · have e : etk (true, b, q) x m d rel = (true, b, mn (mx q 0) 1099511627775 + 1) := by simp [etk, c]
      rw [e]
      refine evn c ?_
      by_cases n : q < 0
      · refine evp n ?_
        rw [show mn (mx q 0) 1099511627775 = 0 from by unfold mn mx; split <;> split <;> omega]
        exact Ev.now _
      · refine evn n ?_
        by_cases t : q < 1099511627776
        · refine evp t ?_
          rw [w64_id (x := q + 1) (by omega) (by omega), show mn (mx q 0) 1099511627775 = q from by unfold mn mx; split <;> split <;> omega]
          exact Ev.now _
        · refine evn t ?_
          rw [show mn (mx q 0) 1099511627775 + 1 = 1099511627776 from by unfold mn mx; split <;> split <;> omega]
          exact Ev.now _
end Go.Proofs.Ytmakhhgfidgfdaa.Num
