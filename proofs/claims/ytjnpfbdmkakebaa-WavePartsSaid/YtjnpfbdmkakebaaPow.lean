/- Powers of parts (layer 6): the program's and the reference's square-and-multiply, by value. -/
import Derived.Test.YtjnpfbdmkakebaaPAx9
import Derived.Test.YtjnpfbdmkakebaaPAx10
import Derived.Test.YtjnpfbdmkakebaaRndMath
namespace Go.Proofs.Ytjnpfbdmkakebaa.Num
set_option linter.unusedVariables false
set_option linter.unusedSimpArgs false
open Go.RowKit Go.Proofs.Ytjnpfbdmkakebaa.PA Go.Proofs.YtjnpfbdmkakebaaW.PrintWords Go.Proofs.YtjnpfbdmkakebaaW.PrintMore

def isPart (x : Int) : Prop := 0 ≤ x ∧ x ≤ 4294967296
def pm (x y : Int) : Int := (fmul x y).1
theorem part_word {x : Int} (h : isPart x) : -9223372036854775808 ≤ x ∧ x < 9223372036854775808 := by
  unfold isPart at h
  omega
theorem pm_eq {x y : Int} (hx : isPart x) (hy : isPart y) : fmul x y = (pm x y, 0) ∧ isPart (pm x y) := by
  obtain ⟨u, h0, h1, h2, _⟩ := fmul_part (part_word hx) hy.1 hy.2
  have hn : ¬ x < 0 := by
    have := hx.1
    omega
  have ha : iabs x = x := if_neg hn
  rw [ha] at h1
  rw [if_neg hn] at h2
  unfold pm
  rw [h2]
  refine ⟨rfl, h0, ?_⟩
  have := hx.2
  show u ≤ 4294967296
  omega
theorem pm_comm (x y : Int) : pm x y = pm y x := by unfold pm; rw [fmul_comm]
theorem pm_mono_l {x y z : Int} (hx : isPart x) (hy : isPart y) (hz : isPart z) (h : x ≤ y) : pm x z ≤ pm y z := by
  refine fmul_mono (part_word hx) (part_word hy) hz.1 h ?_ ?_
  · rw [(pm_eq hx hz).1]
  · rw [(pm_eq hy hz).1]
theorem pm_mono {x y z t : Int} (hx : isPart x) (hy : isPart y) (hz : isPart z) (ht : isPart t) (h : x ≤ y) (h2 : z ≤ t) : pm x z ≤ pm y t := by
  have a := pm_mono_l hx hy hz h
  have b := pm_mono_l hz ht hy h2
  rw [pm_comm z y, pm_comm t y] at b
  exact Int.le_trans a b

/-- Square and multiply, m steps. -/
def gop : Nat → Int → Int → Int → Int
  | 0, _, _, r => r
  | m + 1, x, n, r => gop m (pm x x) (n / 2) (if n % 2 = 1 then pm r x else r)
def sqs : Nat → Int → List Int
  | 0, _ => []
  | m + 1, x => x :: sqs m (pm x x)
theorem sqs_length (m : Nat) : ∀ x, (sqs m x).length = m := by
  induction m with
  | zero => intro x; rfl
  | succ m ih => intro x; show (sqs m (pm x x)).length + 1 = m + 1; rw [ih]
theorem gop_zero (m : Nat) : ∀ x r, gop m x 0 r = r := by
  induction m with
  | zero => intro x r; rfl
  | succ m ih =>
    intro x r
    show gop m (pm x x) (0 / 2) (if (0 : Int) % 2 = 1 then pm r x else r) = r
    rw [if_neg (by decide)]
    exact ih _ _
theorem gop_part (m : Nat) : ∀ {x n r}, isPart x → isPart r → isPart (gop m x n r) := by
  induction m with
  | zero => intro x n r _ h; exact h
  | succ m ih =>
    intro x n r hx hr
    refine ih (pm_eq hx hx).2 ?_
    split
    · exact (pm_eq hr hx).2
    · exact hr
theorem gop_mono (m : Nat) : ∀ {x y n r s}, isPart x → isPart y → isPart r → isPart s → x ≤ y → r ≤ s → gop m x n r ≤ gop m y n s := by
  induction m with
  | zero => intro x y n r s _ _ _ _ _ h; exact h
  | succ m ih =>
    intro x y n r s hx hy hr hs h1 h2
    show gop m (pm x x) (n / 2) (if n % 2 = 1 then pm r x else r) ≤ gop m (pm y y) (n / 2) (if n % 2 = 1 then pm s y else s)
    split
    · exact ih (pm_eq hx hx).2 (pm_eq hy hy).2 (pm_eq hr hx).2 (pm_eq hs hy).2 (pm_mono hx hy hx hy h1 h1) (pm_mono hr hs hx hy h2 h1)
    · exact ih (pm_eq hx hx).2 (pm_eq hy hy).2 hr hs (pm_mono hx hy hx hy h1 h1) h2
theorem gop_double (m : Nat) (x n r : Int) : gop (m + 1) x (2 * n) r = gop m (pm x x) n r := by
  show gop m (pm x x) (2 * n / 2) (if 2 * n % 2 = 1 then pm r x else r) = _
  rw [if_neg (by omega), show 2 * n / 2 = n from by omega]

theorem times_part {x y : Int} (hx : isPart x) (hy : isPart y) : Ev (fun k => pow_times.f k x y) (pm x y) := by
  unfold pow_times.f
  have h := fix_mul_ok (part_word hx) (part_word hy)
  refine Ev.bind h ?_
  exact Ev.now _
theorem and_one {n : Int} (h0 : 0 ≤ n) (h1 : n < 9223372036854775808) : Go.bits .and .i64 n 1 = n % 2 := by
  unfold Go.bits
  simp only [BitVec.toNat_and, BitVec.toNat_ofInt, show IntKind.i64.bits = 64 from rfl]
  rw [show ((1 : Int) % ((2 ^ 64 : Nat) : Int)).toNat = 1 from by decide, Nat.and_one_is_mod]
  have e : (n % ((2 ^ 64 : Nat) : Int)).toNat = n.toNat := by omega
  rw [e]
  have e2 : ((n.toNat % 2 : Nat) : Int) = n % 2 := by omega
  rw [e2]
  rcases (show n % 2 = 0 ∨ n % 2 = 1 by omega) with h | h <;> rw [h] <;> decide

theorem pow_l0 (m : Nat) : ∀ {x n r : Int}, isPart x → isPart r → 0 ≤ n → n < 2 ^ m → n < 9223372036854775808 → Ev (fun k => pow_Of.l0 k x n r) (gop m x n r, 0) := by
  induction m with
  | zero =>
    intro x n r hx hr h0 h1 h2
    have : n = 0 := by
      have h1 : n < 1 := h1
      omega
    subst this
    refine Ev.step (fun k => by rw [pow_Of.l0]) ?_
    exact evn (by omega) (Ev.now _)
  | succ m ih =>
    intro x n r hx hr h0 h1 h2
    refine Ev.step (fun k => by rw [pow_Of.l0]) ?_
    by_cases c : n > 0
    · refine evp c ?_
      rw [and_one h0 h2]
      have h3 : n / 2 < 2 ^ m := by
        rw [Int.pow_succ] at h1
        omega
      show Ev _ (gop m (pm x x) (n / 2) (if n % 2 = 1 then pm r x else r), 0)
      by_cases d : n % 2 = 1
      · refine evp d ?_
        rw [if_pos d]
        refine Ev.bind (times_part hr hx) ?_
        refine Ev.bind (times_part hx hx) ?_
        exact ih (pm_eq hx hx).2 (pm_eq hr hx).2 (by omega) h3 (by omega)
      · refine evn d ?_
        rw [if_neg d]
        refine Ev.bind (times_part hx hx) ?_
        exact ih (pm_eq hx hx).2 hr (by omega) h3 (by omega)
    · refine evn c ?_
      have : n = 0 := by omega
      subst this
      rw [gop_zero]
      exact Ev.now _

theorem one_part : isPart 4294967296 := ⟨by decide, by decide⟩
theorem pow_of_ok {x n : Int} (m : Nat) (hx : isPart x) (h0 : 0 ≤ n) (h1 : n ≤ 1099511627776) (hm : n < 2 ^ m) : Ev (fun k => pow_Of.f k x n) (gop m x n 4294967296, 0) := by
  unfold pow_Of.f
  have hmay : pow_may.f x = some true := by
    unfold pow_may.f
    rw [if_pos hx.1, decide_eq_true hx.2]
  refine evs hmay ?_
  refine evp rfl ?_
  refine evn (by omega) ?_
  rw [decide_eq_false (by omega)]
  refine Ev.step (fun k => by rw [pow_Of.j0]) ?_
  refine evn (by simp) ?_
  exact pow_l0 m hx one_part h0 hm (by omega)
theorem may_no {x : Int} (hx : ¬ isPart x) : pow_may.f x = some false := by
  unfold pow_may.f isPart at *
  by_cases c : x ≥ 0
  · rw [if_pos c, decide_eq_false (by omega)]
  · rw [if_neg c]
theorem may_yes {x : Int} (hx : isPart x) : pow_may.f x = some true := by
  unfold pow_may.f
  rw [if_pos hx.1, decide_eq_true hx.2]
theorem pow_of_no {x n : Int} (h : ¬ isPart x) : Ev (fun k => pow_Of.f k x n) (0, 1) := by
  unfold pow_Of.f
  refine evs (may_no h) ?_
  refine evn (by simp) ?_
  refine Ev.step (fun k => by rw [pow_Of.j0]) ?_
  exact evp rfl (Ev.now _)
theorem pow_of_far {x n : Int} (hx : isPart x) (h : n < 0 ∨ n > 1099511627776) : Ev (fun k => pow_Of.f k x n) (0, 1) := by
  unfold pow_Of.f
  refine evs (may_yes hx) ?_
  refine evp rfl ?_
  by_cases c : n < 0
  · refine evp c ?_
    refine Ev.step (fun k => by rw [pow_Of.j0]) ?_
    exact evp rfl (Ev.now _)
  · refine evn c ?_
    rw [decide_eq_true (by omega)]
    refine Ev.step (fun k => by rw [pow_Of.j0]) ?_
    exact evp rfl (Ev.now _)
theorem pow_sq_l0 (m : Nat) : ∀ {x : Int} {acc : List Int} {i t : Nat}, isPart x → i + m = t → t ≤ 41 → acc.length = i → Ev (fun k => pow_Squares.l0 k x acc (t : Int) (i : Int)) (acc ++ sqs m x) := by
  induction m with
  | zero =>
    intro x acc i t hx h1 h2 h3
    refine Ev.step (fun k => by rw [pow_Squares.l0]) ?_
    refine evn (by omega) ?_
    rw [show acc ++ sqs 0 x = acc from List.append_nil _]
    exact Ev.now _
  | succ m ih =>
    intro x acc i t hx h1 h2 h3
    refine Ev.step (fun k => by rw [pow_Squares.l0]) ?_
    refine evp (by omega) ?_
    refine evp (by omega) ?_
    refine Ev.bind (times_part hx hx) ?_
    rw [w64_succ (by omega)]
    have h := ih (x := pm x x) (acc := acc ++ [x]) (i := i + 1) (t := t) (pm_eq hx hx).2 (by omega) h2 (by simp [h3])
    rw [List.append_assoc] at h
    exact h
theorem pow_sq_ok {x n : Int} (t : Nat) (hx : isPart x) (h : mn (mx n 0) 41 = (t : Int)) (ht : t ≤ 41) : Ev (fun k => pow_Squares.f k x n) (sqs t x) := by
  unfold pow_Squares.f
  refine evs (may_yes hx) ?_
  refine evp rfl ?_
  rw [h]
  exact pow_sq_l0 t (i := 0) (acc := []) hx (by omega) ht rfl
theorem pow_sq_no {x n : Int} (hx : ¬ isPart x) : Ev (fun k => pow_Squares.f k x n) [] := by
  unfold pow_Squares.f
  refine evs (may_no hx) ?_
  exact evn (by simp) (Ev.now _)
theorem ref_part {x y : Int} (hx : isPart x) (hy : isPart y) : Ev (fun k => regimenref04_Part.f k x y) (pm x y) := by
  unfold regimenref04_Part.f
  refine Ev.bind (ref_mul_ok (part_word hx) (part_word hy)) ?_
  exact Ev.now _
theorem ref_sq_l0 (m : Nat) : ∀ {x : Int} {acc : List Int} {i t : Nat}, isPart x → 0 < i → i + m = t → t ≤ 100 → acc.length = i → Ev (fun k => regimenref06_Squares.l0 k x (t : Int) acc (i : Int)) (acc ++ sqs m (pm x x)) := by
  induction m with
  | zero =>
    intro x acc i t hx h0 h1 h2 h3
    refine Ev.step (fun k => by rw [regimenref06_Squares.l0]) ?_
    refine evn (by omega) ?_
    rw [show acc ++ sqs 0 (pm x x) = acc from List.append_nil _]
    exact Ev.now _
  | succ m ih =>
    intro x acc i t hx h0 h1 h2 h3
    refine Ev.step (fun k => by rw [regimenref06_Squares.l0]) ?_
    refine evp (by omega) ?_
    refine evp (by omega) ?_
    refine Ev.bind (ref_part hx hx) ?_
    refine evp (by omega) ?_
    rw [w64_succ (by omega)]
    have h := ih (x := pm x x) (acc := acc ++ [pm x x]) (i := i + 1) (t := t) (pm_eq hx hx).2 (by omega) (by omega) h2 (by simp [h3])
    rw [List.append_assoc] at h
    exact h
theorem ref_sq_ok {x : Int} (t : Nat) (hx : isPart x) (ht : t ≤ 100) : Ev (fun k => regimenref06_Squares.f k x (t : Int)) (sqs t x) := by
  unfold regimenref06_Squares.f
  cases t with
  | zero =>
    refine Ev.step (fun k => by rw [regimenref06_Squares.l0]) ?_
    exact evn (by omega) (Ev.now _)
  | succ t =>
    refine Ev.step (fun k => by rw [regimenref06_Squares.l0]) ?_
    refine evp (by omega) ?_
    refine evn (by omega) ?_
    refine evp (by decide) ?_
    rw [w64_id (x := 0 + 1) (by omega) (by omega)]
    exact ref_sq_l0 t (i := 1) (acc := [x]) hx (by omega) (by omega) ht rfl
theorem same_l0 (l : List Int) (m : Nat) : ∀ {i : Nat}, i + m = l.length → l.length ≤ 1000 → Ev (fun k => regimenref01_Same.l0 k l l (i : Int)) true := by
  induction m with
  | zero =>
    intro i h hl
    refine Ev.step (fun k => by rw [regimenref01_Same.l0]) ?_
    exact evn (by omega) (Ev.now _)
  | succ m ih =>
    intro i h hl
    refine Ev.step (fun k => by rw [regimenref01_Same.l0]) ?_
    refine evp (by omega) ?_
    refine evp (by omega) ?_
    refine evp (by omega) ?_
    refine evp rfl ?_
    rw [w64_succ (by omega)]
    exact ih (by omega) hl
theorem same_ok (l : List Int) (hl : l.length ≤ 1000) : Ev (fun k => regimenref01_Same.f k l l) true := by
  unfold regimenref01_Same.f
  refine evp rfl ?_
  exact same_l0 l l.length (i := 0) (by omega) hl
theorem ref_of_l1 (m : Nat) : ∀ {x n r : Int} {l : List Int} {i : Nat}, isPart x → isPart r → 0 ≤ n → n < 9223372036854775808 → l.drop i = sqs m x → i + m = l.length → l.length ≤ 100 → Ev (fun k => regimenref06_Of.l1 k n l r (i : Int)) (gop m x n r) := by
  induction m with
  | zero =>
    intro x n r l i hx hr h0 h2 hd hl hb
    refine Ev.step (fun k => by rw [regimenref06_Of.l1]) ?_
    exact evn (by omega) (Ev.now _)
  | succ m ih =>
    intro x n r l i hx hr h0 h2 hd hl hb
    have hd : l.drop i = x :: sqs m (pm x x) := hd
    have hi : i < l.length := by omega
    rw [List.drop_eq_getElem_cons hi] at hd
    have e1 : l[i] = x := (List.cons.inj hd).1
    have e2 : l.drop (i + 1) = sqs m (pm x x) := (List.cons.inj hd).2
    have hrd : rd l (i : Int) = x := by
      rw [rd_nat, List.getD_eq_getElem?_getD, List.getElem?_eq_getElem hi, ← e1]
      rfl
    refine Ev.step (fun k => by rw [regimenref06_Of.l1]) ?_
    refine evp (by omega) ?_
    rw [hrd, w64_succ (by omega), show Int.tmod n 2 = n % 2 from Int.tmod_eq_emod_of_nonneg h0, show Int.tdiv n 2 = n / 2 from Int.tdiv_eq_ediv_of_nonneg h0, w64_id (x := n / 2) (by omega) (by omega)]
    show Ev _ (gop m (pm x x) (n / 2) (if n % 2 = 1 then pm r x else r))
    by_cases d : n % 2 = 1
    · refine evp d ?_
      rw [if_pos d]
      refine evp (by omega) ?_
      refine Ev.bind (ref_part hr hx) ?_
      exact ih (pm_eq hx hx).2 (pm_eq hr hx).2 (by omega) (by omega) e2 (by omega) hb
    · refine evn d ?_
      rw [if_neg d]
      exact ih (pm_eq hx hx).2 hr (by omega) (by omega) e2 (by omega) hb
theorem ref_of_l0 (m : Nat) : ∀ {x n t : Int} {c : Nat}, isPart x → 0 ≤ n → n < 9223372036854775808 → 0 ≤ t → t < 9223372036854775808 → t < 2 ^ m → c + m ≤ 100 → n < 2 ^ c * (t + 1) → ∃ b : Nat, n < 2 ^ b ∧ Ev (fun k => regimenref06_Of.l0 k x n (c : Int) t) (gop b x n 4294967296) := by
  induction m with
  | zero =>
    intro x n t c hx h0 h1 h2 h2b h3 h4 h5
    have : t = 0 := by
      have h3 : t < 1 := h3
      omega
    subst this
    refine ⟨c, by omega, ?_⟩
    refine Ev.step (fun k => by rw [regimenref06_Of.l0]) ?_
    refine evn (by omega) ?_
    refine Ev.bind (ref_sq_ok c hx (by omega)) ?_
    exact ref_of_l1 c (i := 0) hx one_part h0 h1 rfl (by rw [sqs_length]; omega) (by rw [sqs_length]; omega)
  | succ m ih =>
    intro x n t c hx h0 h1 h2 h2b h3 h4 h5
    by_cases d : t > 0
    · have h6 : n < 2 ^ (c + 1) * (t / 2 + 1) := by
        rw [Int.pow_succ, Int.mul_assoc]
        have : (2 : Int) ^ c * (t + 1) ≤ 2 ^ c * (2 * (t / 2 + 1)) := Int.mul_le_mul_of_nonneg_left (by omega) (Int.le_of_lt (Int.pow_pos (by decide)))
        omega
      have h7 : t / 2 < 2 ^ m := by
        rw [Int.pow_succ] at h3
        omega
      obtain ⟨b, hb, he⟩ := ih (x := x) (n := n) (t := t / 2) (c := c + 1) hx h0 h1 (by omega) (by omega) h7 (by omega) h6
      refine ⟨b, hb, ?_⟩
      refine Ev.step (fun k => by rw [regimenref06_Of.l0]) ?_
      refine evp d ?_
      rw [w64_succ (by omega), show Int.tdiv t 2 = t / 2 from Int.tdiv_eq_ediv_of_nonneg h2, w64_id (x := t / 2) (by omega) (by omega)]
      exact he
    · have : t = 0 := by omega
      subst this
      refine ⟨c, by omega, ?_⟩
      refine Ev.step (fun k => by rw [regimenref06_Of.l0]) ?_
      refine evn (by omega) ?_
      refine Ev.bind (ref_sq_ok c hx (by omega)) ?_
      exact ref_of_l1 c (i := 0) hx one_part h0 h1 rfl (by rw [sqs_length]; omega) (by rw [sqs_length]; omega)
end Go.Proofs.Ytjnpfbdmkakebaa.Num
