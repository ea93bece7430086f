/- The first reading that no other one is better than: for all readings and rules. -/
import Derived.Test.YtnmmhfpekeeedaaPBx4
import Derived.Test.YtnmmhfpekeeedaaPBx10
import Derived.Test.YtnmmhfpekeeedaaBBetter
namespace Go.Proofs.Ytnmmhfpekeeedaa.Pure
set_option linter.unusedVariables false
open Go.RowKit Go.Proofs.Ytnmmhfpekeeedaa.PB Go.Proofs.Ytnmmhfpekeeedaa.Num Go.Proofs.YtnmmhfpekeeedaaW.PrintWords Go.Proofs.YtnmmhfpekeeedaaW.PrintLast Go.Proofs.YtnmmhfpekeeedaaW.PrintMore

theorem awake29f : Ev (fun k => regimenlaw29_awake.f k) true := Ev.of (fun k => regimenlaw29_awake.mono k) (k := 80) (by decide +kernel)
/-- Is any reading better than this one? -/
def btn (l : List Int) (m : Bool) (d : Int) (rel : Bool) (b : Int) : Bool := l.any fun x => isb x b m d rel
/-- The first one from a place on that none is better than. -/
def fst1 (l : List Int) (m : Bool) (d : Int) (rel : Bool) (t : List Int) (i : Nat) : Int := Lib.idxByFrom (fun _ b => !(btn l m d rel b)) 0 t i
theorem ev_all {g : Int → Nat → Option Bool} {r : Int → Bool} (l : List Int) (h : ∀ x, x ∈ l → Ev (g x) (r x)) : ∃ K, ∀ k, K ≤ k → ∀ x, x ∈ l → g x k = some (r x) := by
  induction l with
  | nil => exact ⟨0, fun k _ x hx => absurd hx (by simp)⟩
  | cons a t ih =>
    obtain ⟨K1, h1⟩ := ih (fun x hx => h x (by simp [hx]))
    obtain ⟨K2, h2⟩ := h a (by simp)
    refine ⟨K1 + K2, fun k hk x hx => ?_⟩
    rcases List.mem_cons.1 hx with rfl | hx
    · exact h2 k (by omega)
    · exact h1 k (by omega) x hx
theorem ev_pairs {g : Int → Int → Nat → Option Bool} {r : Int → Int → Bool} (t l : List Int) (h : ∀ b, b ∈ t → ∀ x, x ∈ l → Ev (g b x) (r b x)) : ∃ K, ∀ k, K ≤ k → ∀ b, b ∈ t → ∀ x, x ∈ l → g b x k = some (r b x) := by
  induction t with
  | nil => exact ⟨0, fun k _ b hb => absurd hb (by simp)⟩
  | cons a t ih =>
    obtain ⟨K1, h1⟩ := ih (fun b hb => h b (by simp [hb]))
    obtain ⟨K2, h2⟩ := ev_all l (h a (by simp))
    refine ⟨K1 + K2, fun k hk b hb => ?_⟩
    rcases List.mem_cons.1 hb with rfl | hb
    · exact h2 k (by omega)
    · exact h1 k (by omega) b hb
theorem idx_congr {p q : Int → Bool} (t : List Int) (h : ∀ b, b ∈ t → p b = q b) : ∀ i, Lib.idxByFrom (fun _ b => p b) 0 t i = Lib.idxByFrom (fun _ b => q b) (0 : Int) t i := by
  induction t with
  | nil => intro i; rfl
  | cons a t ih =>
    intro i
    have a1 := h a (by simp)
    have a2 := ih (fun b hb => h b (by simp [hb])) (i + 1)
    simp only [Lib.idxByFrom, a1, a2]
theorem first_ok (l : List Int) (m : Bool) {d : Int} (rel : Bool) (hl : ∀ x, x ∈ l → word x) (hd : word d) : Ev (fun k => better_First.f k l m d rel) (fst1 l m d rel l 0) := by
  obtain ⟨K, hK⟩ := ev_pairs (g := fun b x k => better_Is.f k x b m d rel) (r := fun b x => isb x b m d rel) l l (fun b hb x hx => is_ok m rel (hl x hx) (hl b hb) hd)
  refine ⟨K, fun k hk => ?_⟩
  have h := hK k hk
  show better_First.f k l m d rel = _
  unfold better_First.f
  have c : better_First.all k l m d rel = true := List.all_eq_true.2 fun b hb => List.all_eq_true.2 fun x hx => by rw [h b hb x hx]; rfl
  rw [if_pos c]
  refine congrArg some ?_
  refine idx_congr l (fun b hb => ?_) 0
  refine congrArg (!·) ?_
  unfold better_First.beaten btn
  rw [Bool.eq_iff_iff, List.any_eq_true, List.any_eq_true]
  exact ⟨fun ⟨x, hx, q⟩ => ⟨x, hx, by rw [h b hb x hx] at q; exact q⟩, fun ⟨x, hx, q⟩ => ⟨x, hx, by rw [h b hb x hx]; exact q⟩⟩
theorem fst1_at (l : List Int) (m : Bool) (d : Int) (rel : Bool) (i : Nat) (h : i < l.length) : fst1 l m d rel (l.drop i) i = if btn l m d rel (l.getD i 0) = true then fst1 l m d rel (l.drop (i + 1)) (i + 1) else (i : Int) := by
  have e : l.drop i = l.getD i 0 :: l.drop (i + 1) := by
    rw [List.getD_eq_getElem?_getD, List.getElem?_eq_getElem h]
    exact List.drop_eq_getElem_cons h
  rw [e]
  unfold fst1
  by_cases c : btn l m d rel (l.getD i 0) = true
  · simp only [Lib.idxByFrom, c]
    simp
  · rw [Bool.not_eq_true] at c
    simp only [Lib.idxByFrom, c]
    simp
theorem fst1_end (l : List Int) (m : Bool) (d : Int) (rel : Bool) : fst1 l m d rel (l.drop l.length) l.length = -1 := by
  rw [List.drop_length]
  rfl
theorem any_succ (l : List Int) (p : Int → Bool) (j : Nat) (h : j < l.length) : (l.take (j + 1)).any p = ((l.take j).any p || p (l.getD j 0)) := by
  rw [List.take_add_one, List.any_append]
  congr 1
  rw [List.getD_eq_getElem?_getD, List.getElem?_eq_getElem h]
  simp
theorem getW {l : List Int} (hl : ∀ x, x ∈ l → word x) (i : Nat) : word (l.getD i 0) := by
  rw [List.getD_eq_getElem?_getD]
  cases h : l[i]? with
  | none => exact ⟨by simp, by simp⟩
  | some x => exact hl x (List.mem_of_getElem? h)
theorem inner_ok (l : List Int) (m : Bool) {d : Int} (rel : Bool) (hl : ∀ x, x ∈ l → word x) (hd : word d) (hn : l.length ≤ 40) (i : Nat) (hi : i < l.length) (x5 : Int)
    (h : Ev (fun k => regimenlaw29_BetterFirst.l0 k l (if btn l m d rel (l.getD i 0) = true then x5 else (i : Int)) ((i : Int) - 1) m d rel) true) (e : Nat) :
    ∀ (j : Nat), j + e = l.length → Ev (fun k => regimenlaw29_BetterFirst.l1 k l x5 (i : Int) ((l.take j).any fun x => isb x (l.getD i 0) m d rel) (j : Int) m d rel) true := by
  induction e with
  | zero =>
    intro j hj
    refine Ev.step (fun k => by rw [regimenlaw29_BetterFirst.l1]) ?_
    refine evn (by omega) ?_
    rw [show l.take j = l from List.take_of_length_le (by omega), show wrap64 ((i : Int) - 1) = (i : Int) - 1 from w64_id (by omega) (by omega)]
    change Ev (fun k => if (btn l m d rel (l.getD i 0)) = true then _ else _) true
    by_cases c : btn l m d rel (l.getD i 0) = true
    · rw [if_pos c] at h
      exact evp c h
    · rw [if_neg c] at h
      exact evn c h
  | succ e ih =>
    intro j hj
    have g := ih (j + 1) (by omega)
    rw [any_succ l _ j (by omega)] at g
    have w1 : wrap64 ((j : Int) + 1) = ((j + 1 : Nat) : Int) := by rw [w64_id (by omega) (by omega)]; omega
    refine Ev.step (fun k => by rw [regimenlaw29_BetterFirst.l1]) ?_
    refine evp (by omega) ?_
    rw [w1, rd_nat, rd_nat]
    by_cases c : ((l.take j).any fun x => isb x (l.getD i 0) m d rel) = true
    · rw [c] at g ⊢
      exact evp rfl g
    · refine evn c ?_
      refine evp (by omega) ?_
      refine evp (by omega) ?_
      refine evp (by omega) ?_
      refine Ev.bind (ref_is_ok m rel (getW hl j) (getW hl i) hd) ?_
      rw [Bool.eq_false_iff.2 c, Bool.false_or] at g
      exact g
theorem outer_ok (l : List Int) (m : Bool) {d : Int} (rel : Bool) (hl : ∀ x, x ∈ l → word x) (hd : word d) (hn : l.length ≤ 40) (i : Nat) :
    i ≤ l.length → Ev (fun k => regimenlaw29_BetterFirst.l0 k l (fst1 l m d rel (l.drop i) i) ((i : Int) - 1) m d rel) true := by
  induction i with
  | zero =>
    intro _
    refine Ev.step (fun k => by rw [regimenlaw29_BetterFirst.l0]) ?_
    refine evn (by omega) ?_
    refine Ev.bind (first_ok l m rel hl hd) ?_
    refine evp rfl ?_
    exact Ev.bind awake29f (Ev.now _)
  | succ i ih =>
    intro hi
    have g := ih (by omega)
    rw [fst1_at l m d rel i (by omega)] at g
    have q := inner_ok l m rel hl hd hn i (by omega) _ g l.length 0 (by omega)
    refine Ev.step (fun k => by rw [regimenlaw29_BetterFirst.l0]) ?_
    rw [show ((i + 1 : Nat) : Int) - 1 = (i : Int) from by omega]
    refine evp (by omega) ?_
    exact q
theorem BetterFirst : regimenlaw29_BetterFirst.Pure := by
  intro l m d rel hl hd
  obtain ⟨_, _, hl⟩ := hl
  have hl : ∀ x, x ∈ l → word x := fun x hx => i64_wf (hl x hx)
  have hd : word d := i64_wf hd
  refine Ev.rounds (r := true) ?_
  unfold regimenlaw29_BetterFirst.f
  by_cases c : (l.length : Int) > 40
  · exact evp c (Ev.bind awake29f (Ev.now _))
  · refine evn c ?_
    have h := outer_ok l m rel hl hd (by omega) l.length (Nat.le_refl _)
    rw [fst1_end] at h
    rw [show wrap64 ((l.length : Int) - 1) = (l.length : Int) - 1 from w64_id (by omega) (by omega)]
    exact h
end Go.Proofs.Ytnmmhfpekeeedaa.Pure
