/- Averages in which all count alike (layer 34): the program's and the reference's, by value. -/
import Derived.Test.YtmakhhgfidgfdaaPCx1
import Derived.Test.YtmakhhgfidgfdaaPCx3
import Derived.Test.YtmakhhgfidgfdaaPCx5
import Derived.Test.YtmakhhgfidgfdaaPCx6
import Derived.Test.YtmakhhgfidgfdaaPCx8
import Derived.Test.YtmakhhgfidgfdaaCSame
namespace Go.Proofs.Ytmakhhgfidgfdaa.Num
set_option linter.unusedVariables false
set_option linter.unusedSimpArgs false
open Go.RowKit Go.Proofs.Ytmakhhgfidgfdaa.PC Go.Proofs.YtmakhhgfidgfdaaW.PrintWords Go.Proofs.YtmakhhgfidgfdaaW.PrintMore

theorem ref_add1_ok {x y : Int} (hx : -9223372036854775808 ≤ x ∧ x < 9223372036854775808) (hy : -9223372036854775808 ≤ y ∧ y < 9223372036854775808) : Ev (fun k => regimenref04_Add.f k x y) (fadd x y) := by
  obtain ⟨a, ha, da, va, la⟩ := ref_size_ok hx
  obtain ⟨b, hb, db, vb, lb⟩ := ref_size_ok hy
  obtain ⟨s, hs, ds, vs, ls⟩ := plus_ok a b da db 4 (by omega) (by omega) (by omega)
  have hg := ref_signed_ok s ds (by omega) (decide (x < 0))
  rw [vs, va, vb] at hg
  unfold regimenref04_Add.f
  by_cases c : x < 0
  · by_cases d : y < 0
    · refine evp (by simp [c, d]) ?_
      refine evs ha ?_
      refine evs hb ?_
      refine Ev.bind hs ?_
      refine Ev.bind hg ?_
      refine Ev.congr (fun k => ?_) (Ev.now _)
      unfold sgn fadd iabs
      rw [decide_eq_true c, if_pos rfl, if_pos c, if_pos d]
      split
      · rw [if_pos (by omega)]
        congr 2
        omega
      · rw [if_neg (by omega)]
    · refine evn (by simp [c, d]) ?_
      refine Ev.congr (fun k => ?_) (Ev.now _)
      unfold fadd
      rw [if_pos (by omega), w64_id (by omega) (by omega)]
  · by_cases d : y < 0
    · refine evn (by simp [c, d]) ?_
      refine Ev.congr (fun k => ?_) (Ev.now _)
      unfold fadd
      rw [if_pos (by omega), w64_id (by omega) (by omega)]
    · refine evp (by simp [c, d]) ?_
      refine evs ha ?_
      refine evs hb ?_
      refine Ev.bind hs ?_
      refine Ev.bind hg ?_
      refine Ev.congr (fun k => ?_) (Ev.now _)
      unfold sgn fadd iabs
      rw [decide_eq_false c, if_neg (show ¬ (false = true) by simp), if_neg c, if_neg d]
      split
      · rw [if_pos (by omega)]
      · rw [if_neg (by omega)]
/-- May a sum be? -/
def smay (c : Int) (s : List Int) : Prop := 0 ≤ c ∧ c ≤ 1048576 ∧ (c = 0 → s.length = 0)
instance (c : Int) (s : List Int) : Decidable (smay c s) := by unfold smay; infer_instance
theorem swa_check_ok (c : Int) (s : List Int) : swa_Check.f c s = some (if smay c s then 0 else 1) := by
  unfold swa_Check.f
  by_cases c1 : c < 0
  · rw [if_pos c1, if_neg (by unfold smay; omega)]
  · rw [if_neg c1]
    by_cases c2 : c > 1048576
    · rw [if_pos c2, if_neg (by unfold smay; omega)]
    · rw [if_neg c2]
      by_cases c3 : c = 0
      · rw [if_pos c3]
        by_cases c4 : (s.length : Int) > 0
        · rw [if_pos c4, if_neg (by unfold smay; omega)]
        · rw [if_neg c4, if_pos (by unfold smay; omega)]
      · rw [if_neg c3, if_pos (by unfold smay; omega)]
theorem ref_smay_ok (c : Int) (s : List Int) : regimenref34_May.f c s = some (decide (smay c s)) := by
  unfold regimenref34_May.f
  by_cases c1 : c ≥ 0
  · rw [if_pos c1]
    by_cases c2 : c ≤ 1048576
    · rw [if_pos c2]
      by_cases c3 : c > 0
      · rw [if_pos c3, decide_eq_true (by unfold smay; omega)]
      · rw [if_neg c3]
        congr 1
        by_cases c4 : s.length = 0
        · rw [decide_eq_true (by unfold smay; omega)]
          simp [c4]
        · rw [decide_eq_false (by unfold smay; omega)]
          simpa using c4
    · rw [if_neg c2, decide_eq_false (by unfold smay; omega)]
  · rw [if_neg c1, decide_eq_false (by unfold smay; omega)]
/-- The sums from place i on, behind acc. -/
def addv (c : Int) (s w : List Int) : Nat → Nat → List Int → Int × List Int × Int
  | i, 0, acc => (c + 1, acc, 0)
  | i, e + 1, acc => if (fadd (s.getD i 0) (w.getD i 0)).2 = 0 then addv c s w (i + 1) e (acc ++ [(fadd (s.getD i 0) (w.getD i 0)).1]) else (0, [], (fadd (s.getD i 0) (w.getD i 0)).2)
theorem swa_add_loop (c : Int) (s w : List Int) (hs : ∀ x, x ∈ s → word' x) (hw : ∀ x, x ∈ w → word' x) (hl : s.length = w.length) (hn : w.length < 1000000) (e : Nat) :
    ∀ (i : Nat) (acc : List Int), i + e = w.length → acc.length = i → Ev (fun k => swa_Add.l0 k w (w.length : Int) (i : Int) c s (c + 1) acc) (addv c s w i e acc) := by
  induction e with
  | zero =>
    intro i acc h ha
    refine Ev.step (fun k => by rw [swa_Add.l0]) ?_
    exact evn (by omega) (Ev.now _)
  | succ e ih =>
    intro i acc h ha
    refine Ev.step (fun k => by rw [swa_Add.l0]) ?_
    refine evp (by omega) ?_
    refine evp (by omega) ?_
    refine evp (by omega) ?_
    refine evp (by omega) ?_
    rw [rd_nat, rd_nat]
    refine evs (fix_add_ok (getD_word' hs i) (getD_word' hw i)) ?_
    by_cases q : (fadd (s.getD i 0) (w.getD i 0)).2 = 0
    · rw [show addv c s w i (e + 1) acc = addv c s w (i + 1) e (acc ++ [(fadd (s.getD i 0) (w.getD i 0)).1]) from if_pos q]
      refine evp q ?_
      refine evp (by omega) ?_
      rw [w64_succ (by omega)]
      exact ih (i + 1) _ (by omega) (by simp [ha])
    · rw [show addv c s w i (e + 1) acc = (0, [], (fadd (s.getD i 0) (w.getD i 0)).2) from if_neg q]
      exact evn q (Ev.now _)
/-- What comes of weights that are added to a sum that may be. -/
def swav (c : Int) (s w : List Int) : Int × List Int × Int :=
  if c = 1048576 then (0, [], 9) else if c = 0 then (1, w, 0) else if s.length = w.length then addv c s w 0 w.length [] else (0, [], 1)
theorem swa_add_ok (c : Int) (s w : List Int) (hs : ∀ x, x ∈ s → word' x) (hw : ∀ x, x ∈ w → word' x) (hn : w.length < 100000) (hm : smay c s) : Ev (fun k => swa_Add.f k c s w) (swav c s w) := by
  have h0 := hm.1
  have h1 := hm.2.1
  unfold swa_Add.f swav
  refine evs (swa_check_ok c s) ?_
  rw [if_pos hm]
  refine evp rfl ?_
  by_cases c1 : c = 1048576
  · rw [if_pos c1]
    exact evp c1 (Ev.now _)
  · rw [if_neg c1]
    refine evn c1 ?_
    by_cases c2 : c = 0
    · rw [if_pos c2]
      refine evp c2 ?_
      refine evs (clone_ok w (by omega)) ?_
      exact Ev.now _
    · rw [if_neg c2]
      refine evn c2 ?_
      by_cases c3 : s.length = w.length
      · rw [if_pos c3]
        refine evp (by omega) ?_
        rw [w64_id (x := c + 1) (by omega) (by omega)]
        exact swa_add_loop c s w hs hw c3 (by omega) w.length 0 [] (by omega) rfl
      · rw [if_neg c3]
        exact evn (by omega) (Ev.now _)
theorem swa_add_no (c : Int) (s w : List Int) (hm : ¬ smay c s) : Ev (fun k => swa_Add.f k c s w) (0, [], 1) := by
  unfold swa_Add.f
  refine evs (swa_check_ok c s) ?_
  rw [if_neg hm]
  exact evn (by decide) (Ev.now _)
theorem ref_swa_loop (c : Int) (s w : List Int) (hs : ∀ x, x ∈ s → word' x) (hw : ∀ x, x ∈ w → word' x) (hc : 0 < c) (hl : s.length = w.length) (hn : w.length < 1000000) (e : Nat) :
    ∀ (i : Nat) (acc : List Int), i + e = w.length → acc.length = i → Ev (fun k => regimenref34_Add.l0 k w (i : Int) c s (c + 1) acc) (addv c s w i e acc) := by
  induction e with
  | zero =>
    intro i acc h ha
    refine Ev.step (fun k => by rw [regimenref34_Add.l0]) ?_
    exact evn (by omega) (Ev.now _)
  | succ e ih =>
    intro i acc h ha
    refine Ev.step (fun k => by rw [regimenref34_Add.l0]) ?_
    refine evp (by omega) ?_
    refine evp (by omega) ?_
    refine evp hc ?_
    refine evp (by omega) ?_
    rw [rd_nat, rd_nat]
    refine Ev.bind (ref_add1_ok (getD_word' hs i) (getD_word' hw i)) ?_
    by_cases q : (fadd (s.getD i 0) (w.getD i 0)).2 = 0
    · rw [show addv c s w i (e + 1) acc = addv c s w (i + 1) e (acc ++ [(fadd (s.getD i 0) (w.getD i 0)).1]) from if_pos q]
      refine evp q ?_
      refine evp (by omega) ?_
      rw [w64_succ (by omega)]
      exact ih (i + 1) _ (by omega) (by simp [ha])
    · rw [show addv c s w i (e + 1) acc = (0, [], (fadd (s.getD i 0) (w.getD i 0)).2) from if_neg q]
      exact evn q (Ev.now _)
theorem ref_swa_first (s w : List Int) (hn : w.length < 1000000) (e : Nat) :
    ∀ (i : Nat), i + e = w.length → Ev (fun k => regimenref34_Add.l0 k w (i : Int) 0 s 1 (tab (fun i => w.getD i 0) i)) (1, w, 0) := by
  induction e with
  | zero =>
    intro i h
    obtain rfl : i = w.length := by omega
    refine Ev.step (fun k => by rw [regimenref34_Add.l0]) ?_
    rw [tab_self]
    exact evn (by omega) (Ev.now _)
  | succ e ih =>
    intro i h
    have nx := ih (i + 1) (by omega)
    rw [tab_succ] at nx
    refine Ev.step (fun k => by rw [regimenref34_Add.l0]) ?_
    refine evp (by omega) ?_
    refine evp (by omega) ?_
    refine evn (by omega) ?_
    refine evp (by rw [tab_length]; omega) ?_
    rw [rd_nat, w64_succ (by omega)]
    exact nx
theorem ref_swa_ok (c : Int) (s w : List Int) (hs : ∀ x, x ∈ s → word' x) (hw : ∀ x, x ∈ w → word' x) (hn : w.length < 100000) (hm : smay c s) : Ev (fun k => regimenref34_Add.f k c s w) (swav c s w) := by
  have h0 := hm.1
  have h1 := hm.2.1
  unfold regimenref34_Add.f swav
  by_cases c1 : c = 1048576
  · rw [if_pos c1]
    exact evp c1 (Ev.now _)
  · rw [if_neg c1]
    refine evn c1 ?_
    by_cases c2 : c = 0
    · rw [if_pos c2]
      subst c2
      refine evn (by omega) ?_
      refine Ev.step (fun k => by rw [regimenref34_Add.j0]) ?_
      refine evn (by simp) ?_
      rw [w64_id (x := 0 + 1) (by omega) (by omega)]
      exact ref_swa_first s w (by omega) w.length 0 (by omega)
    · rw [if_neg c2]
      refine evp (by omega) ?_
      refine Ev.step (fun k => by rw [regimenref34_Add.j0]) ?_
      by_cases c3 : s.length = w.length
      · rw [if_pos c3]
        refine evn (by rw [c3]; simp) ?_
        rw [w64_id (x := c + 1) (by omega) (by omega)]
        exact ref_swa_loop c s w hs hw (by omega) c3 (by omega) w.length 0 [] (by omega) rfl
      · rw [if_neg c3]
        refine evp (by rw [bne_iff_ne]; omega) ?_
        exact Ev.now _
/-- A mean. -/
def meanv (c x : Int) : Int := (sgn (rnd (iabs x) c) (decide (x < 0))).1
theorem mean_rnd {c x : Int} (hx : word' x) (hc : 0 < c) : 0 ≤ rnd (iabs x) c ∧ rnd (iabs x) c ≤ 9223372036854775808 := by
  have a := iabs_nonneg x
  have b := iabs_lt hx
  refine ⟨rnd_nonneg a hc, Int.le_trans (rnd_le hc (q := iabs x) ?_) b⟩
  have := Int.mul_le_mul_of_nonneg_left (show 1 ≤ c by omega) a
  omega
theorem swa_mean_loop (c : Int) (s : List Int) (hs : ∀ x, x ∈ s → word' x) (hc : 0 < c) (hc2 : c ≤ 1048576) (hn : s.length < 1000000) (e : Nat) :
    ∀ (i : Nat), i + e = s.length → Ev (fun k => swa_Mean.l0 k (tab (fun i => meanv c (s.getD i 0)) i) s (s.length : Int) (i : Int) c s) (tab (fun i => meanv c (s.getD i 0)) s.length, 0) := by
  induction e with
  | zero =>
    intro i h
    obtain rfl : i = s.length := by omega
    refine Ev.step (fun k => by rw [swa_Mean.l0]) ?_
    exact evn (by omega) (Ev.now _)
  | succ e ih =>
    intro i h
    have nx := ih (i + 1) (by omega)
    rw [tab_succ] at nx
    have wx := getD_word' hs i
    have ab := iabs_lt wx
    have a0 := iabs_nonneg (s.getD i 0)
    have mr := mean_rnd wx hc
    have ne := half_near_ok (hi := 0) (lo := iabs (s.getD i 0)) (d := c) (by omega) (by omega) a0 (by omega) (by omega) (by omega)
    rw [show iabs (s.getD i 0) + 18446744073709551616 * 0 = iabs (s.getD i 0) from by omega, near_sgn (α := Unit) (by omega), if_pos (by omega)] at ne
    refine Ev.step (fun k => by rw [swa_Mean.l0]) ?_
    refine evp (by omega) ?_
    refine evp (by omega) ?_
    refine evp (by omega) ?_
    rw [rd_nat]
    refine evs (fix_size_ok wx) ?_
    rw [u64_id (x := c) (by omega) (by omega)]
    refine Ev.bind ne ?_
    refine Ev.bind (fix_signed_ok (decide (s.getD i 0 < 0)) mr.1 (by omega)) ?_
    refine evp (by rw [tab_length]; omega) ?_
    rw [w64_succ (by omega)]
    exact nx
theorem swa_mean_ok (c : Int) (s : List Int) (hs : ∀ x, x ∈ s → word' x) (hn : s.length < 1000000) (hm : smay c s) : Ev (fun k => swa_Mean.f k c s) (tab (fun i => meanv c (s.getD i 0)) s.length, 0) := by
  unfold swa_Mean.f
  refine evs (swa_check_ok c s) ?_
  rw [if_pos hm]
  refine evp rfl ?_
  by_cases c0 : c = 0
  · have := hm.2.2 c0
    obtain rfl : s = [] := List.eq_nil_of_length_eq_zero this
    refine Ev.step (fun k => by rw [swa_Mean.l0]) ?_
    exact evn (by simp) (Ev.now _)
  · have h0 := hm.1
    exact swa_mean_loop c s hs (by omega) hm.2.1 hn s.length 0 (by omega)
theorem swa_mean_no (c : Int) (s : List Int) (hm : ¬ smay c s) : Ev (fun k => swa_Mean.f k c s) ([], 1) := by
  unfold swa_Mean.f
  refine evs (swa_check_ok c s) ?_
  rw [if_neg hm]
  exact evn (by decide) (Ev.now _)
theorem ref_mean_loop (c : Int) (s : List Int) (hs : ∀ x, x ∈ s → word' x) (hc : 0 < c) (hc2 : c ≤ 1048576) (hn : s.length < 1000000) (e : Nat) :
    ∀ (i : Nat), i + e = s.length → Ev (fun k => regimenref34_Mean.l0 k (tab (fun i => meanv c (s.getD i 0)) i) (i : Int) c s) (tab (fun i => meanv c (s.getD i 0)) s.length) := by
  induction e with
  | zero =>
    intro i h
    obtain rfl : i = s.length := by omega
    refine Ev.step (fun k => by rw [regimenref34_Mean.l0]) ?_
    exact evn (by omega) (Ev.now _)
  | succ e ih =>
    intro i h
    have nx := ih (i + 1) (by omega)
    rw [tab_succ] at nx
    have wx := getD_word' hs i
    obtain ⟨a, ha, da, va, la⟩ := ref_size_ok wx
    obtain ⟨b, hb, db, vb, lb⟩ := ref_size_ok (x := c) ⟨by omega, by omega⟩
    rw [show iabs c = c from if_neg (by omega)] at vb
    obtain ⟨z, hz, dz, vz, lz⟩ := rounded_ok a b da db (by omega) (by omega) (by omega)
    rw [va, vb] at vz
    have sg := ref_signed_ok z dz (by omega) (decide (s.getD i 0 < 0))
    rw [vz] at sg
    refine Ev.step (fun k => by rw [regimenref34_Mean.l0]) ?_
    refine evp (by omega) ?_
    refine evp (by omega) ?_
    rw [rd_nat]
    refine evs ha ?_
    refine evs hb ?_
    refine Ev.bind hz ?_
    refine Ev.bind sg ?_
    refine evp (by rw [tab_length]; omega) ?_
    rw [w64_succ (by omega)]
    exact nx
end Go.Proofs.Ytmakhhgfidgfdaa.Num
