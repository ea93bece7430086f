/- Numbers that are added in either order are the same sum; their mean lies between the least and the greatest; always the same one is its mean: for all numbers. -/
import Derived.Test.YtmakhhgfidgfdaaPCx1
import Derived.Test.YtmakhhgfidgfdaaPCx3
import Derived.Test.YtmakhhgfidgfdaaPCx4
import Derived.Test.YtmakhhgfidgfdaaPCx10
import Derived.Test.YtmakhhgfidgfdaaCSwa
namespace Go.Proofs.Ytmakhhgfidgfdaa.Pure
set_option linter.unusedVariables false
open Go.RowKit Go.Proofs.Ytmakhhgfidgfdaa.PC Go.Proofs.Ytmakhhgfidgfdaa.Num Go.Proofs.YtmakhhgfidgfdaaW.PrintWords Go.Proofs.YtmakhhgfidgfdaaW.PrintLast Go.Proofs.YtmakhhgfidgfdaaW.PrintMore

theorem awake34b : Ev (fun k => regimenlaw34_awake.f k) true := Ev.of (fun k => regimenlaw34_awake.mono k) (k := 80) (by decide +kernel)

theorem sums1_same_l0 (c : Int) (l : List Int) (hl : l.length ≤ 1000000) (m : Nat) : ∀ {i : Nat}, i + m = l.length → Ev (fun k => regimenref34_Same.l0 k (i : Int) c l c l) true := by
  induction m with
  | zero =>
    intro i h
    refine Ev.step (fun k => by rw [regimenref34_Same.l0]) ?_
    exact evn (by omega) (Ev.now _)
  | succ m ih =>
    intro i h
    refine Ev.step (fun k => by rw [regimenref34_Same.l0]) ?_
    refine evp (by omega) ?_
    refine evp (by omega) ?_
    refine evp (by omega) ?_
    refine evp rfl ?_
    rw [w64_succ (by omega)]
    exact ih (by omega)
theorem sums1_same_ok (c : Int) (l : List Int) (hl : l.length ≤ 1000000) : Ev (fun k => regimenref34_Same.f k c l c l) true := by
  unfold regimenref34_Same.f
  refine evp rfl ?_
  refine Ev.step (fun k => by rw [regimenref34_Same.j0]) ?_
  refine evn (by simp) ?_
  exact sums1_same_l0 c l hl l.length (i := 0) (by omega)

/-- A sum of i numbers, S in all: or it could not be told. -/
def st (i : Nat) (S e c : Int) (s : List Int) : Prop := (e = 0 ∧ c = (i : Int) ∧ s = (if i = 0 then [] else [S]) ∧ word' S ∧ (i = 0 → S = 0)) ∨ e = 4
/-- One number more. -/
theorem add_one {i : Nat} {S c y : Int} {s : List Int} (h : st i S 0 c s) (hy : word' y) (hi : i < 1000) :
    ∃ r, Ev (fun k => swa_Add.f k c s [y]) r ∧ st (i + 1) (S + y) r.2.2 r.1 r.2.1 := by
  rcases h with ⟨_, hc, hs, hS, h0⟩ | h
  · subst hc
    have hsw : ∀ x, x ∈ s → word' x := by
      intro x hx
      rw [hs] at hx
      split at hx
      · cases hx
      · rw [List.mem_singleton] at hx
        rw [hx]
        exact hS
    have hyw : ∀ x, x ∈ [y] → word' x := by
      intro x hx
      rw [List.mem_singleton] at hx
      rw [hx]
      exact hy
    have hm : smay (i : Int) s := by
      refine ⟨by omega, by omega, fun z => ?_⟩
      rw [hs, if_pos (by omega)]
      rfl
    refine ⟨_, swa_add_ok (i : Int) s [y] hsw hyw (by simp) hm, ?_⟩
    unfold swav
    rw [if_neg (by omega)]
    by_cases z : i = 0
    · rw [if_pos (by omega)]
      refine .inl ⟨rfl, by dsimp only; omega, ?_, ?_, fun q => by omega⟩
      · rw [if_neg (by omega), h0 z, Int.zero_add]
      · rw [h0 z, Int.zero_add]
        exact hy
    · rw [if_neg (by omega)]
      rw [if_neg z] at hs
      subst hs
      rw [if_pos (by simp)]
      show st (i + 1) (S + y) (if (fadd S y).2 = 0 then addv (i : Int) [S] [y] 1 0 ([] ++ [(fadd S y).1]) else (0, [], (fadd S y).2)).2.2 (if (fadd S y).2 = 0 then addv (i : Int) [S] [y] 1 0 ([] ++ [(fadd S y).1]) else (0, [], (fadd S y).2)).1 (if (fadd S y).2 = 0 then addv (i : Int) [S] [y] 1 0 ([] ++ [(fadd S y).1]) else (0, [], (fadd S y).2)).2.1
      unfold fadd
      by_cases q : -9223372036854775808 ≤ S + y ∧ S + y < 9223372036854775808
      · rw [if_pos q, if_pos rfl]
        refine .inl ⟨rfl, ?_, ?_, q, fun z => by omega⟩
        · show (i : Int) + 1 = _
          omega
        · rw [if_neg (by omega)]
          rfl
      · rw [if_neg q, if_neg (by decide)]
        exact .inr rfl
  · exact absurd h (by decide)
/-- The sum of the first i of T. -/
def sumt (T : Nat → Int) : Nat → Int
  | 0 => 0
  | i + 1 => sumt T i + T i
theorem sumt_le {T : Nat → Int} {lo hi : Int} (n : Nat) (h : ∀ k, k < n → lo ≤ T k ∧ T k ≤ hi) : lo * n ≤ sumt T n ∧ sumt T n ≤ hi * n := by
  induction n with
  | zero => simp [sumt]
  | succ n ih =>
    have a := ih (fun k hk => h k (by omega))
    have b := h n (by omega)
    rw [show sumt T (n + 1) = sumt T n + T n from rfl, Int.natCast_add, Int.mul_add, Int.mul_add]
    omega
theorem sumt_shift (T : Nat → Int) (n : Nat) : sumt T (n + 1) = T 0 + sumt (fun k => T (k + 1)) n := by
  induction n with
  | zero => simp [sumt]
  | succ n ih =>
    rw [show sumt T (n + 1 + 1) = sumt T (n + 1) + T (n + 1) from rfl, ih]
    rw [show sumt (fun k => T (k + 1)) (n + 1) = sumt (fun k => T (k + 1)) n + T (n + 1) from rfl]
    omega
theorem sumt_congr {T U : Nat → Int} (n : Nat) (h : ∀ k, k < n → T k = U k) : sumt T n = sumt U n := by
  induction n with
  | zero => rfl
  | succ n ih =>
    rw [show sumt T (n + 1) = sumt T n + T n from rfl, show sumt U (n + 1) = sumt U n + U n from rfl, ih (fun k hk => h k (by omega)), h n (by omega)]
theorem sumt_rev (n : Nat) : ∀ T : Nat → Int, sumt (fun k => T (n - 1 - k)) n = sumt T n := by
  induction n with
  | zero => intro T; rfl
  | succ n ih =>
    intro T
    rw [sumt_shift (fun k => T (n + 1 - 1 - k)) n]
    rw [show sumt T (n + 1) = sumt T n + T n from rfl]
    have e : sumt (fun k => T (n + 1 - 1 - (k + 1))) n = sumt (fun k => T (n - 1 - k)) n := sumt_congr n (fun k hk => by
      congr 1
      omega)
    rw [e, ih T, show n + 1 - 1 - 0 = n from by omega]
    omega
theorem sumt_const (x : Int) (n : Nat) : sumt (fun _ => x) n = x * n := by
  induction n with
  | zero => simp [sumt]
  | succ n ih =>
    rw [show sumt (fun _ => x) (n + 1) = sumt (fun _ => x) n + x from rfl, ih, Int.natCast_add, Int.mul_add]
    omega
theorem mean_val {n : Int} {S : Int} (hS : word' S) (hn : 0 < n) : meanv n S = if S < 0 then -rnd (-S) n else rnd S n := by
  have mr := mean_rnd hS hn
  have h0 := hS.1
  have h1 := hS.2
  unfold meanv
  by_cases c : S < 0
  · rw [if_pos c]
    rw [show iabs S = -S from if_pos c] at *
    unfold sgn
    rw [decide_eq_true c, if_pos rfl, if_pos mr.2]
  · rw [if_neg c]
    rw [show iabs S = S from if_neg c] at *
    have : rnd S n ≤ S := by
      refine rnd_le hn ?_
      have := Int.mul_le_mul_of_nonneg_left (show 1 ≤ n by omega) (show 0 ≤ S by omega)
      omega
    unfold sgn
    rw [decide_eq_false c, if_neg (by simp), if_pos (by omega)]
theorem mean_in {n S lo hi : Int} (hS : word' S) (hn : 0 < n) (h0 : lo * n ≤ S) (h1 : S ≤ hi * n) : lo ≤ meanv n S ∧ meanv n S ≤ hi := by
  rw [mean_val hS hn]
  by_cases c : S < 0
  · rw [if_pos c]
    have a := rnd_le (V := -S) (q := -lo) hn (by rw [Int.neg_mul]; omega)
    have b := rnd_ge (V := -S) (q := -hi) hn (by rw [Int.neg_mul]; omega)
    omega
  · rw [if_neg c]
    exact ⟨rnd_ge hn h0, rnd_le hn h1⟩
theorem mean_same {n x : Int} (hS : word' (x * n)) (hn : 0 < n) : meanv n (x * n) = x := by
  have := mean_in (lo := x) (hi := x) hS hn (Int.le_refl _) (Int.le_refl _)
  omega
theorem mean_one {i : Nat} {S c : Int} {s : List Int} (h : st i S 0 c s) (hi : i < 1000) (h0 : 0 < i) : Ev (fun k => swa_Mean.f k c s) ([meanv i S], 0) := by
  rcases h with ⟨_, hc, hs, hS, _⟩ | h
  · rw [if_neg (by omega)] at hs
    subst hc
    subst hs
    exact swa_mean_ok (i : Int) [S] (by
      intro x hx
      rw [List.mem_singleton] at hx
      rw [hx]
      exact hS) (by simp) ⟨by omega, by omega, fun q => by omega⟩
  · exact absurd h (by decide)

theorem order_end (l : List Int) (x lo hi e f g a c : Int) (A B C : List Int) (b : Int) (hn : l.length < 1000) (h0 : 0 < l.length)
    (he : st l.length (sumt (fun k => l.getD k 0) l.length) e a A) (hf : st l.length (sumt (fun k => l.getD (l.length - 1 - k) 0) l.length) f b B) (hg : st l.length (sumt (fun _ => x) l.length) g c C)
    (hb : ∀ k, k < l.length → lo ≤ l.getD k 0 ∧ l.getD k 0 ≤ hi) :
    Ev (fun k => if e = 0 then (if f = 0 then ((regimenref34_Same.f k a A b B).bind fun t412 => (regimenlaw34_SwaOrder.j5 k x e g lo hi (!t412) a A c C)) else (regimenlaw34_SwaOrder.j5 k x e g lo hi false a A c C)) else (regimenlaw34_SwaOrder.j5 k x e g lo hi false a A c C)) true := by
  have j6 : Ev (fun k => regimenlaw34_SwaOrder.j6 k x g c C) true := by
    refine Ev.step (fun k => by rw [regimenlaw34_SwaOrder.j6]) ?_
    by_cases c1 : g = 0
    · refine evp c1 ?_
      subst c1
      have m := mean_one hg hn h0
      have w : word' (x * l.length) := by
        rcases hg with ⟨_, _, _, q, _⟩ | q
        · rw [sumt_const] at q
          exact q
        · exact absurd q (by decide)
      rw [sumt_const, mean_same w (by omega)] at m
      refine Ev.bind m ?_
      refine evp rfl ?_
      refine evp rfl ?_
      refine evp (by simp) ?_
      refine evp rfl ?_
      exact Ev.bind awake34b (Ev.now _)
    · refine evn c1 ?_
      exact Ev.bind awake34b (Ev.now _)
  have j5 : Ev (fun k => regimenlaw34_SwaOrder.j5 k x e g lo hi false a A c C) true := by
    refine Ev.step (fun k => by rw [regimenlaw34_SwaOrder.j5]) ?_
    refine evn (by simp) ?_
    by_cases c1 : e = 0
    · refine evp c1 ?_
      subst c1
      have m := mean_one he hn h0
      have w : word' (sumt (fun k => l.getD k 0) l.length) := by
        rcases he with ⟨_, _, _, q, _⟩ | q
        · exact q
        · exact absurd q (by decide)
      have sl := sumt_le (T := fun k => l.getD k 0) l.length hb
      have mi := mean_in w (show (0 : Int) < l.length by omega) sl.1 sl.2
      refine Ev.bind m ?_
      refine evp rfl ?_
      refine evp rfl ?_
      refine evp (by simp) ?_
      refine evs (within_ok (x := rd [meanv (l.length : Int) (sumt (fun k => l.getD k 0) l.length)] 0) (.inl mi)) ?_
      refine evp rfl ?_
      exact j6
    · exact evn c1 j6
  by_cases c1 : e = 0
  · refine evp c1 ?_
    by_cases c2 : f = 0
    · refine evp c2 ?_
      have same : a = b ∧ A = B ∧ A.length ≤ 1 := by
        subst c1
        subst c2
        rcases he with ⟨_, ha, hA, _, _⟩ | q
        · rcases hf with ⟨_, hb2, hB, _, _⟩ | q
          · rw [sumt_rev l.length (fun k => l.getD k 0)] at hB
            rw [if_neg (by omega)] at hA hB
            exact ⟨by rw [ha, hb2], by rw [hA, hB], by rw [hA]; simp⟩
          · exact absurd q (by decide)
        · exact absurd q (by decide)
      obtain ⟨rfl, rfl, sl⟩ := same
      refine Ev.bind (sums1_same_ok a A (by omega)) ?_
      exact j5
    · exact evn c2 j5
  · exact evn c1 j5

theorem order_loop (l : List Int) (x : Int) (hl : ∀ y, y ∈ l → word' y) (hx : word' x) (hn : l.length < 1000) (h0 : 0 < l.length) (d : Nat) :
    ∀ (i : Nat) (e f g lo hi a b c : Int) (A B C : List Int), i + d = l.length →
    st i (sumt (fun k => l.getD k 0) i) e a A → st i (sumt (fun k => l.getD (l.length - 1 - k) 0) i) f b B → st i (sumt (fun _ => x) i) g c C →
    (∀ k, k < i → lo ≤ l.getD k 0 ∧ l.getD k 0 ≤ hi) → Ev (fun k => regimenlaw34_SwaOrder.l0 k l x e f g lo hi (i : Int) a A b B c C) true := by
  induction d with
  | zero =>
    intro i e f g lo hi a b c A B C h he hf hg hb
    obtain rfl : i = l.length := by omega
    refine Ev.step (fun k => by rw [regimenlaw34_SwaOrder.l0]) ?_
    refine evn (by omega) ?_
    exact order_end l x lo hi e f g a c A B C b hn h0 he hf hg hb
  | succ d ih =>
    intro i e f g lo hi a b c A B C h he hf hg hb
    have j4 : ∀ (e f g a b c : Int) (A B C : List Int), st (i + 1) (sumt (fun k => l.getD k 0) (i + 1)) e a A → st (i + 1) (sumt (fun k => l.getD (l.length - 1 - k) 0) (i + 1)) f b B → st (i + 1) (sumt (fun _ => x) (i + 1)) g c C →
        Ev (fun k => regimenlaw34_SwaOrder.j4 k l x e f g lo hi (i : Int) a A b B c C) true := by
      intro e f g a b c A B C he hf hg
      have nx : ∀ lo' hi', lo' ≤ lo → hi ≤ hi' → lo' ≤ l.getD i 0 → l.getD i 0 ≤ hi' → Ev (fun k => regimenlaw34_SwaOrder.l0 k l x e f g lo' hi' ((i + 1 : Nat) : Int) a A b B c C) true := by
        intro lo' hi' h1 h2 h3 h4
        refine ih (i + 1) e f g lo' hi' a b c A B C (by omega) he hf hg (fun k hk => ?_)
        by_cases q : k = i
        · rw [q]
          exact ⟨h3, h4⟩
        · have := hb k (by omega)
          exact ⟨by omega, by omega⟩
      refine Ev.step (fun k => by rw [regimenlaw34_SwaOrder.j4]) ?_
      refine evp (by omega) ?_
      refine evp (by omega) ?_
      rw [rd_nat, w64_succ (by omega)]
      by_cases c1 : l.getD i 0 < lo
      · refine evp c1 ?_
        by_cases c2 : l.getD i 0 > hi
        · exact evp c2 (nx _ _ (by omega) (by omega) (by omega) (by omega))
        · exact evn c2 (nx _ _ (by omega) (by omega) (by omega) (by omega))
      · refine evn c1 ?_
        by_cases c2 : l.getD i 0 > hi
        · exact evp c2 (nx _ _ (by omega) (by omega) (by omega) (by omega))
        · exact evn c2 (nx _ _ (by omega) (by omega) (by omega) (by omega))
    have bad : ∀ {S S' e c : Int} {s : List Int}, st i S e c s → ¬ e = 0 → st (i + 1) S' e c s := by
      intro S S' e c s hs hne
      rcases hs with ⟨q, _⟩ | q
      · exact absurd q hne
      · exact .inr q
    have j3 : ∀ (e f a b : Int) (A B : List Int), st (i + 1) (sumt (fun k => l.getD k 0) (i + 1)) e a A → st (i + 1) (sumt (fun k => l.getD (l.length - 1 - k) 0) (i + 1)) f b B →
        Ev (fun k => regimenlaw34_SwaOrder.j3 k l x e f g lo hi (i : Int) a A b B c C) true := by
      intro e f a b A B he hf
      refine Ev.step (fun k => by rw [regimenlaw34_SwaOrder.j3]) ?_
      by_cases c1 : g = 0
      · refine evp c1 ?_
        rw [c1] at hg
        obtain ⟨r, hr, sr⟩ := add_one hg hx (by omega)
        refine Ev.bind hr ?_
        exact j4 e f _ a b _ A B _ he hf sr
      · refine evn c1 ?_
        exact j4 e f g a b c A B C he hf (bad hg c1)
    have j2 : ∀ (e a : Int) (A : List Int), st (i + 1) (sumt (fun k => l.getD k 0) (i + 1)) e a A →
        Ev (fun k => regimenlaw34_SwaOrder.j2 k l x e f g lo hi (i : Int) a A b B c C) true := by
      intro e a A he
      refine Ev.step (fun k => by rw [regimenlaw34_SwaOrder.j2]) ?_
      by_cases c1 : f = 0
      · refine evp c1 ?_
        rw [c1] at hf
        obtain ⟨r, hr, sr⟩ := add_one hf (getD_word' hl (l.length - 1 - i)) (by omega)
        rw [w64_id (x := (l.length : Int) - 1) (by omega) (by omega), w64_id (x := (l.length : Int) - 1 - (i : Int)) (by omega) (by omega)]
        refine evp (by omega) ?_
        refine evp (by omega) ?_
        rw [show (l.length : Int) - 1 - (i : Int) = ((l.length - 1 - i : Nat) : Int) from by omega, rd_nat]
        refine Ev.bind hr ?_
        exact j3 e _ a _ A _ he sr
      · refine evn c1 ?_
        exact j3 e f a b A B he (bad hf c1)
    refine Ev.step (fun k => by rw [regimenlaw34_SwaOrder.l0]) ?_
    refine evp (by omega) ?_
    by_cases c1 : e = 0
    · refine evp c1 ?_
      rw [c1] at he
      obtain ⟨r, hr, sr⟩ := add_one he (getD_word' hl i) (by omega)
      refine evp (by omega) ?_
      rw [rd_nat]
      refine Ev.bind hr ?_
      exact j2 _ _ _ sr
    · refine evn c1 ?_
      exact j2 e a A (bad he c1)

theorem SwaOrder : regimenlaw34_SwaOrder.Pure := by
  intro l x hl hx
  have hx : word' x := i64_wf hx
  have hlw : ∀ y, y ∈ l → word' y := fun y h => i64_wf (hl.2.2 y h)
  refine Ev.rounds (r := true) ?_
  have fin : Ev (fun k => regimenlaw34_SwaOrder.j0 k l x true) true := by
    refine Ev.step (fun k => by rw [regimenlaw34_SwaOrder.j0]) ?_
    refine evp rfl ?_
    exact Ev.bind awake34b (Ev.now _)
  unfold regimenlaw34_SwaOrder.f
  by_cases c1 : (l.length : Int) < 1
  · exact evp c1 fin
  refine evn c1 ?_
  by_cases c2 : (l.length : Int) > 60
  · rw [decide_eq_true c2]
    exact fin
  rw [decide_eq_false c2]
  refine Ev.step (fun k => by rw [regimenlaw34_SwaOrder.j0]) ?_
  refine evn (by simp) ?_
  refine evp (by omega) ?_
  have s0 : st 0 0 0 0 [] := .inl ⟨rfl, rfl, rfl, ⟨by omega, by omega⟩, fun _ => rfl⟩
  exact order_loop l x hlw hx (by omega) (by omega) l.length 0 0 0 0 _ _ 0 0 0 [] [] [] (by omega) s0 s0 s0 (fun k hk => by omega)
end Go.Proofs.Ytmakhhgfidgfdaa.Pure
