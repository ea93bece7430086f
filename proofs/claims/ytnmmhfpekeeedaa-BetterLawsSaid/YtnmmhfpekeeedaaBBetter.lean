/- When a reading is better than another one (layer 29): the program's and the reference's, by value. -/
import Derived.Test.YtnmmhfpekeeedaaPBx2
import Derived.Test.YtnmmhfpekeeedaaPBx4
import Derived.Test.YtnmmhfpekeeedaaPBx7
import Derived.Test.YtnmmhfpekeeedaaPBx8
import Derived.Test.YtnmmhfpekeeedaaBApart
namespace Go.Proofs.Ytnmmhfpekeeedaa.Num
set_option linter.unusedVariables false
set_option linter.unusedSimpArgs false
open Go.RowKit Go.Proofs.Ytnmmhfpekeeedaa.PB Go.Proofs.YtnmmhfpekeeedaaW.PrintWords Go.Proofs.YtnmmhfpekeeedaaW.PrintMore

/-- By how much more a reading must be better; false: there is no such product. -/
def gapv (best d : Int) (rel : Bool) : Int × Bool := if rel = true then ((fmul (mn (iabs best) 9223372036854775807) (mx d 0)).1, (fmul (mn (iabs best) 9223372036854775807) (mx d 0)).2 == 0) else (mx d 0, true)
/-- Is a reading better? -/
def isb (x best : Int) (m : Bool) (d : Int) (rel : Bool) : Bool := decide ((if m = true then x > best else x < best) ∧ (gapv best d rel).2 = true ∧ iabs (x - best) > (gapv best d rel).1)
def word (x : Int) : Prop := -9223372036854775808 ≤ x ∧ x < 9223372036854775808
theorem sgn_low {u : Int} (h0 : 0 ≤ u) : 0 ≤ (sgn u false).1 ∧ (sgn u false).1 < 9223372036854775808 := by
  unfold sgn
  rw [if_neg (by simp)]
  split
  · exact ⟨h0, by assumption⟩
  · exact ⟨by simp, by simp⟩
theorem fmul_low {x y : Int} (hx : 0 ≤ x) (hy : 0 ≤ y) : 0 ≤ (fmul x y).1 ∧ (fmul x y).1 < 9223372036854775808 := by
  unfold fmul
  have e : opp x y = false := by
    unfold opp
    rw [decide_eq_false (by omega), decide_eq_false (by omega)]
    rfl
  rw [e]
  refine sgn_low (rnd_nonneg ?_ (by decide))
  exact Int.mul_nonneg (iabs_nonneg x) (iabs_nonneg y)
theorem mx_word {d : Int} (h : word d) : 0 ≤ mx d 0 ∧ mx d 0 < 9223372036854775808 := by
  have h0 := h.1
  have h1 := h.2
  unfold mx
  constructor <;> split <;> omega
theorem mn_word (b : Int) : 0 ≤ mn (iabs b) 9223372036854775807 ∧ mn (iabs b) 9223372036854775807 < 9223372036854775808 := by
  have := iabs_nonneg b
  unfold mn
  constructor <;> split <;> omega
theorem gapv_range (b : Int) {d : Int} (h : word d) (rel : Bool) : 0 ≤ (gapv b d rel).1 ∧ (gapv b d rel).1 < 9223372036854775808 := by
  unfold gapv
  cases rel
  · exact mx_word h
  · exact fmul_low (mn_word b).1 (mx_word h).1
theorem gap_ok {b d : Int} (m rel : Bool) (hb : word b) (hd : word d) : Ev (fun k => better_Gap.f k b m d rel) (gapv b d rel) := by
  have h1 := mn_word b
  have h2 := mx_word hd
  unfold better_Gap.f
  cases rel
  · exact evn (by simp) (Ev.now _)
  · refine evp rfl ?_
    refine evs (fix_size_ok hb) ?_
    rw [w64_id (by omega) h1.2]
    refine Ev.bind (fix_mul_ok ⟨by omega, h1.2⟩ ⟨by omega, h2.2⟩) ?_
    exact Ev.now _
theorem apart_ok {hi lo : Int} (hh : word hi) (hl : word lo) : better_apart.f hi lo = some (if hi > lo then hi - lo else (hi - lo) % 18446744073709551616, decide (hi > lo)) := by
  have a0 := hh.1
  have a1 := hh.2
  have b0 := hl.1
  have b1 := hl.2
  unfold better_apart.f
  rw [u64_mod, u64_mod, u64_mod]
  congr 2
  split <;> omega
theorem is_ok {x b d : Int} (m rel : Bool) (hx : word x) (hb : word b) (hd : word d) : Ev (fun k => better_Is.f k x b m d rel) (isb x b m d rel) := by
  have g := gapv_range b hd rel
  have x0 := hx.1
  have x1 := hx.2
  have b0 := hb.1
  have b1 := hb.2
  have gu : IntKind.u64.wrap (gapv b d rel).1 = (gapv b d rel).1 := u64_id g.1 (by omega)
  unfold better_Is.f
  cases m
  · refine evn (by simp) ?_
    refine evs (apart_ok hb hx) ?_
    refine Ev.bind (gap_ok false rel hb hd) ?_
    by_cases c : b > x
    · refine evp (decide_eq_true c) ?_
      by_cases e : (gapv b d rel).2 = true
      · refine evp e ?_
        refine Ev.congr (fun _ => ?_) (Ev.now _)
        congr 1
        unfold isb
        rw [gu, if_pos c]
        have ia : iabs (x - b) = b - x := by unfold iabs; split <;> omega
        rw [ia]
        exact decide_eq_decide.2 ⟨fun h => ⟨by rw [if_neg (by simp)]; exact c, e, h⟩, fun h => h.2.2⟩
      · refine evn e ?_
        refine Ev.congr (fun _ => ?_) (Ev.now _)
        congr 1
        exact (decide_eq_false (fun h => e h.2.1)).symm
    · refine evn (by simp; omega) ?_
      refine Ev.congr (fun _ => ?_) (Ev.now _)
      congr 1
      refine (decide_eq_false (fun h => c ?_)).symm
      have := h.1
      rw [if_neg (by simp)] at this
      exact this
  · refine evp rfl ?_
    refine evs (apart_ok hx hb) ?_
    refine Ev.bind (gap_ok true rel hb hd) ?_
    by_cases c : x > b
    · refine evp (decide_eq_true c) ?_
      by_cases e : (gapv b d rel).2 = true
      · refine evp e ?_
        refine Ev.congr (fun _ => ?_) (Ev.now _)
        congr 1
        unfold isb
        rw [gu, if_pos c]
        have ia : iabs (x - b) = x - b := by unfold iabs; split <;> omega
        rw [ia]
        exact decide_eq_decide.2 ⟨fun h => ⟨by rw [if_pos rfl]; exact c, e, h⟩, fun h => h.2.2⟩
      · refine evn e ?_
        refine Ev.congr (fun _ => ?_) (Ev.now _)
        congr 1
        exact (decide_eq_false (fun h => e h.2.1)).symm
    · refine evn (by simp; omega) ?_
      refine Ev.congr (fun _ => ?_) (Ev.now _)
      congr 1
      refine (decide_eq_false (fun h => c ?_)).symm
      have := h.1
      rw [if_pos rfl] at this
      exact this
theorem ref_gap_j {b d : Int} (m rel : Bool) (d0 : Int) (hb : word b) (hd : word d) : Ev (fun k => regimenref29_Gap.j0 k b (mx d 0) m d0 rel) (gapv b d rel) := by
  have h1 := mn_word b
  have h2 := mx_word hd
  have b0 := hb.1
  have b1 := hb.2
  refine Ev.step (fun k => by rw [regimenref29_Gap.j0]) ?_
  cases rel
  · exact evn (by simp) (Ev.now _)
  · refine evp rfl ?_
    by_cases c : b = -9223372036854775808
    · have e : mn (iabs b) 9223372036854775807 = 9223372036854775807 := by
        subst c
        decide
      unfold gapv
      rw [e]
      refine evp c ?_
      refine Ev.bind (ref_mul_ok ⟨by omega, by omega⟩ ⟨by omega, h2.2⟩) ?_
      exact Ev.now _
    · refine evn c ?_
      by_cases e : b < 0
      · have a : mn (iabs b) 9223372036854775807 = -b := by
          unfold mn iabs
          rw [if_pos e]
          split <;> omega
        unfold gapv
        rw [a]
        refine evp e ?_
        rw [w64_id (x := -b) (by omega) (by omega)]
        refine Ev.bind (ref_mul_ok ⟨by omega, by omega⟩ ⟨by omega, h2.2⟩) ?_
        exact Ev.now _
      · have a : mn (iabs b) 9223372036854775807 = b := by
          unfold mn iabs
          rw [if_neg e]
          split <;> omega
        unfold gapv
        rw [a]
        refine evn e ?_
        refine Ev.bind (ref_mul_ok ⟨by omega, by omega⟩ ⟨by omega, h2.2⟩) ?_
        exact Ev.now _
theorem ref_gap_ok {b d : Int} (m rel : Bool) (hb : word b) (hd : word d) : Ev (fun k => regimenref29_Gap.f k b m d rel) (gapv b d rel) := by
  have j := ref_gap_j m rel d hb hd
  unfold regimenref29_Gap.f
  by_cases c : d < 0
  · refine evp c ?_
    rw [show mx d 0 = 0 from by unfold mx; split <;> omega] at j
    exact j
  · refine evn c ?_
    rw [show mx d 0 = d from by unfold mx; split <;> omega] at j
    exact j
theorem ref_is_j {x b d : Int} (m rel : Bool) (hx : word x) (hb : word b) (hd : word d) (w : Bool) (hw : w = true ↔ ¬ (if m = true then x > b else x < b)) : Ev (fun k => regimenref29_Is.j0 k x b w m d rel) (isb x b m d rel) := by
  have g := gapv_range b hd rel
  refine Ev.step (fun k => by rw [regimenref29_Is.j0]) ?_
  by_cases c : w = true
  · refine evp c ?_
    refine Ev.congr (fun _ => ?_) (Ev.now _)
    congr 1
    exact (decide_eq_false (fun h => hw.1 c h.1)).symm
  · have hp : (if m = true then x > b else x < b) := Classical.byContradiction fun h => c (hw.2 h)
    refine evn c ?_
    refine Ev.bind (ref_gap_ok m rel hb hd) ?_
    by_cases e : (gapv b d rel).2 = true
    · refine evp e ?_
      obtain ⟨l, hl, dl, vl, ll⟩ := ref_apart_ok hx hb
      obtain ⟨n, hn, dn, vn, ln⟩ := ref_size_ok (x := (gapv b d rel).1) ⟨by omega, g.2⟩
      refine Ev.bind hl ?_
      refine evs hn ?_
      refine Ev.bind (cmp_ok l n dl dn (by omega) (by omega)) ?_
      refine Ev.congr (fun _ => ?_) (Ev.now _)
      congr 1
      have ig : iabs (gapv b d rel).1 = (gapv b d rel).1 := by unfold iabs; split <;> omega
      unfold isb
      rw [vl, vn, ig]
      refine decide_eq_decide.2 ⟨fun h => ⟨hp, e, ?_⟩, fun h => ?_⟩
      · by_cases p : iabs (x - b) < (gapv b d rel).1
        · rw [if_pos p] at h
          omega
        · rw [if_neg p] at h
          by_cases q : iabs (x - b) > (gapv b d rel).1
          · exact q
          · rw [if_neg q] at h
            omega
      · have q := h.2.2
        rw [if_neg (by omega), if_pos q]
        decide
    · refine evn e ?_
      refine Ev.congr (fun _ => ?_) (Ev.now _)
      congr 1
      exact (decide_eq_false (fun h => e h.2.1)).symm
theorem ref_is_ok {x b d : Int} (m rel : Bool) (hx : word x) (hb : word b) (hd : word d) : Ev (fun k => regimenref29_Is.f k x b m d rel) (isb x b m d rel) := by
  unfold regimenref29_Is.f
  cases m
  · refine evn (by simp) ?_
    refine ref_is_j false rel hx hb hd _ ?_
    rw [if_neg (by simp), decide_eq_true_eq]
    omega
  · refine evp rfl ?_
    by_cases c : x ≤ b
    · refine evp c (ref_is_j true rel hx hb hd _ ?_)
      rw [if_pos rfl]
      simp only [true_iff]
      omega
    · refine evn c (ref_is_j true rel hx hb hd _ ?_)
      rw [if_pos rfl]
      simp only [Bool.false_eq_true, false_iff]
      omega
end Go.Proofs.Ytnmmhfpekeeedaa.Num
