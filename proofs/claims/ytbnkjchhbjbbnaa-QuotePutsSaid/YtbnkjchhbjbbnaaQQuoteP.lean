/- Texts within quotes (layer 11): what is put, and that it is got. -/
import Derived.Test.YtbnkjchhbjbbnaaPQx0
import Derived.Test.YtbnkjchhbjbbnaaPQx1
import Derived.Test.YtbnkjchhbjbbnaaPQx3
import Derived.Test.YtbnkjchhbjbbnaaQQuoteV
namespace Go.Proofs.Ytbnkjchhbjbbnaa.Num
set_option linter.unusedVariables false
set_option linter.unusedSimpArgs false
open Go.RowKit Go.Proofs.Ytbnkjchhbjbbnaa.PQ Go.Proofs.YtbnkjchhbjbbnaaW.PrintWords Go.Proofs.YtbnkjchhbjbbnaaW.PrintMore

def encAll (l : List Int) : List Int := l.flatMap encB
theorem encAll_cons (c : Int) (l : List Int) : encAll (c :: l) = encB c ++ encAll l := by simp [encAll]
theorem encB_len (c : Int) : 1 ≤ (encB c).length ∧ (encB c).length ≤ 4 := by
  unfold encB
  split
  · simp
  · split
    · simp
    · split <;> simp
theorem encAll_len (l : List Int) : (encAll l).length ≤ 4 * l.length := by
  induction l with
  | nil => simp [encAll]
  | cons c l ih =>
    have := encB_len c
    rw [encAll_cons, List.length_append, List.length_cons]
    omega
theorem hx_byte {i : Int} (h0 : 0 ≤ i) (h1 : i < 16) : 0 ≤ hx i ∧ hx i < 256 := by
  unfold hx
  split <;> omega
theorem dg_hx' {i : Int} (h0 : 0 ≤ i) (h1 : i < 16) : dg (hx i) = i := by
  have := dg_hx i.toNat (by omega)
  rwa [show ((i.toNat : Nat) : Int) = i from by omega] at this
theorem encB_byte {c : Int} (h0 : 0 ≤ c) (h1 : c < 256) : ∀ x, x ∈ encB c → 0 ≤ x ∧ x < 256 := by
  have a := hx_byte (i := c / 16) (by omega) (by omega)
  have b := hx_byte (i := c % 16) (by omega) (by omega)
  intro x hx
  unfold encB at hx
  split at hx
  · simp only [List.mem_singleton] at hx
    omega
  · split at hx
    · simp only [List.mem_cons, List.not_mem_nil, or_false] at hx
      omega
    · split at hx
      · simp only [List.mem_cons, List.not_mem_nil, or_false] at hx
        omega
      · simp only [List.mem_cons, List.not_mem_nil, or_false] at hx
        omega
theorem encAll_byte {l : List Int} (h : ∀ x, x ∈ l → 0 ≤ x ∧ x < 256) : ∀ x, x ∈ encAll l → 0 ≤ x ∧ x < 256 := by
  intro x hx
  obtain ⟨c, hc, hx⟩ := List.mem_flatMap.1 hx
  exact encB_byte (h c hc).1 (h c hc).2 x hx
theorem one_enc {c : Int} (h0 : 0 ≤ c) (h1 : c < 256) (t : List Int) : oneP (encB c ++ t) 0 = (c, (encB c).length) ∧ (encB c ++ t).getD 0 0 ≠ 34 := by
  unfold encB
  by_cases p : plainP c
  · rw [if_pos p]
    refine ⟨?_, p.2.2.1⟩
    show oneP (c :: t) 0 = _
    exact if_pos p
  · rw [if_neg p]
    have n92 : ¬ plainP 92 := by decide
    by_cases q : c = 34 ∨ c = 92
    · rw [if_pos q]
      refine ⟨?_, by show (92 : Int) ≠ 34; decide⟩
      show oneP (92 :: c :: t) 0 = _
      unfold oneP
      rw [show (92 :: c :: t).getD 0 0 = 92 from rfl, show (92 :: c :: t).getD (0 + 1) 0 = c from rfl, if_neg n92, if_pos ⟨rfl, by simp⟩, if_pos q]
      rfl
    · rw [if_neg q]
      by_cases n : c = 10
      · rw [if_pos n]
        refine ⟨?_, by show (92 : Int) ≠ 34; decide⟩
        show oneP (92 :: 110 :: t) 0 = _
        unfold oneP
        rw [show (92 :: 110 :: t).getD 0 0 = 92 from rfl, show (92 :: 110 :: t).getD (0 + 1) 0 = 110 from rfl, if_neg n92, if_pos ⟨rfl, by simp⟩, if_neg (by decide), if_pos rfl, n]
        rfl
      · rw [if_neg n]
        refine ⟨?_, by show (92 : Int) ≠ 34; decide⟩
        have d1 := dg_hx' (i := c / 16) (by omega) (by omega)
        have d2 := dg_hx' (i := c % 16) (by omega) (by omega)
        show oneP (92 :: 120 :: hx (c / 16) :: hx (c % 16) :: t) 0 = _
        unfold oneP
        rw [show (92 :: 120 :: hx (c / 16) :: hx (c % 16) :: t).getD 0 0 = 92 from rfl, show (92 :: 120 :: hx (c / 16) :: hx (c % 16) :: t).getD (0 + 1) 0 = 120 from rfl,
          show (92 :: 120 :: hx (c / 16) :: hx (c % 16) :: t).getD (0 + 2) 0 = hx (c / 16) from rfl, show (92 :: 120 :: hx (c / 16) :: hx (c % 16) :: t).getD (0 + 3) 0 = hx (c % 16) from rfl,
          d1, d2, if_neg n92, if_pos ⟨rfl, by simp⟩, if_neg (by decide), if_neg (by decide), if_pos ⟨rfl, by simp, by omega, by omega⟩, show 16 * (c / 16) + c % 16 = c from by omega]
        rfl
theorem rv_enc (m : List Int) (h : ∀ x, x ∈ m → 0 ≤ x ∧ x < 256) : ∀ (pre a rest : List Int), RV (pre ++ (encAll m ++ (34 :: rest))) pre.length a (strOfNums (a ++ m), ((pre.length + (encAll m).length + 1 : Nat) : Int)) := by
  induction m with
  | nil =>
    intro pre a rest
    have q : (pre ++ (encAll [] ++ (34 :: rest))).getD pre.length 0 = 34 := by
      rw [List.getD_eq_getElem?_getD, List.getElem?_append_right (Nat.le_refl _), Nat.sub_self]
      rfl
    have g := RV.quote (l := pre ++ (encAll [] ++ (34 :: rest))) pre.length a (by simp [encAll]) q
    rw [List.append_nil]
    exact g
  | cons c m ih =>
    intro pre a rest
    have hc := h c (by simp)
    have i2 := ih (fun x hx => h x (by simp [hx])) (pre ++ encB c) (a ++ [c]) rest
    have el : pre ++ (encAll (c :: m) ++ (34 :: rest)) = (pre ++ encB c) ++ (encAll m ++ (34 :: rest)) := by
      rw [encAll_cons]
      simp
    have ed : (pre ++ (encAll (c :: m) ++ (34 :: rest))).drop pre.length = encB c ++ (encAll m ++ (34 :: rest)) := by
      rw [encAll_cons, List.append_assoc, List.drop_left]
    obtain ⟨o, n34⟩ := one_enc hc.1 hc.2 (encAll m ++ (34 :: rest))
    rw [← ed, oneP_drop] at o
    rw [← ed, getD_drop, Nat.add_zero] at n34
    have bl := encB_len c
    refine RV.step _ _ _ (by rw [List.length_append, List.length_append, List.length_cons]; omega) n34 (by rw [o]; show (encB c).length ≠ 0; omega) ?_
    rw [o]
    rw [← el, List.length_append, List.append_assoc] at i2
    rw [encAll_cons, List.length_append]
    rw [show pre.length + ((encB c).length + (encAll m).length) + 1 = pre.length + (encB c).length + (encAll m).length + 1 from by omega]
    exact i2
/-- A text's quoted text. -/
def putV (l : List Int) : List Int := 34 :: (encAll l ++ [34])
theorem put_byte {l : List Int} (h : ∀ x, x ∈ l → 0 ≤ x ∧ x < 256) : ∀ x, x ∈ putV l → 0 ≤ x ∧ x < 256 := by
  intro x hx
  unfold putV at hx
  rw [List.mem_cons, List.mem_append, List.mem_singleton] at hx
  rcases hx with hx | hx | hx
  · omega
  · exact encAll_byte h x hx
  · omega
theorem read_put {l : List Int} (h : ∀ x, x ∈ l → 0 ≤ x ∧ x < 256) (rest : List Int) : ReadV (putV l ++ rest) (strOfNums l, ((putV l).length : Int)) := by
  unfold ReadV
  rw [if_pos ⟨rfl, by simp [putV]⟩]
  have g := rv_enc l h [34] [] rest
  rw [show putV l ++ rest = [34] ++ (encAll l ++ (34 :: rest)) from by simp [putV]]
  rw [show (putV l).length = [34].length + (encAll l).length + 1 from by simp [putV]; omega]
  exact g
theorem put_loop (s : ByteArray) (hs : s.size ≤ 10000) (e : Nat) : ∀ (i : Nat) (a : List Int), i + e = s.size → a.length ≤ 4 * i + 1 → Ev (fun k => quote_Put.l0 k a (numsOf s) ((numsOf s).length : Int) (i : Int)) (strOfNums (a ++ (encAll ((numsOf s).drop i) ++ [34]))) := by
  have hl := nums_len s
  induction e with
  | zero =>
    intro i a h ha
    refine Ev.step (fun k => by rw [quote_Put.l0]) ?_
    refine evn (by omega) ?_
    refine evp (by omega) ?_
    rw [List.drop_eq_nil_of_le (by omega)]
    exact Ev.now _
  | succ e ih =>
    intro i a h ha
    have hi : i < (numsOf s).length := by omega
    have b := byte_at s i
    have bl := encB_len ((numsOf s).getD i 0)
    have dr : (numsOf s).drop i = (numsOf s).getD i 0 :: (numsOf s).drop (i + 1) := by
      rw [List.drop_eq_getElem_cons hi, List.getD_eq_getElem?_getD, List.getElem?_eq_getElem hi]
      rfl
    have nx := ih (i + 1) (a ++ encB ((numsOf s).getD i 0)) (by omega) (by rw [List.length_append]; omega)
    rw [dr, encAll_cons, List.append_assoc, ← List.append_assoc a]
    refine Ev.step (fun k => by rw [quote_Put.l0]) ?_
    refine evp (by omega) ?_
    refine evp (by omega) ?_
    refine evp (by omega) ?_
    rw [rd_nat, w64_succ (by omega)]
    refine evs (plain_ok _) ?_
    generalize (numsOf s).getD i 0 = c at b bl nx ⊢
    by_cases p : plainP c
    · refine evp (decide_eq_true p) ?_
      refine evp (by omega) ?_
      rw [show encB c = [c] from if_pos p] at nx ⊢
      exact nx
    · refine evn (by rw [decide_eq_false p]; simp) ?_
      have yes : (c = 34 ∨ c = 92) → Ev (fun k => quote_Put.j1 k a c (numsOf s) ((numsOf s).length : Int) (i : Int) true) (strOfNums (a ++ encB c ++ (encAll ((numsOf s).drop (i + 1)) ++ [34]))) := by
        intro q
        rw [show encB c = [92, c] from by unfold encB; rw [if_neg p, if_pos q]] at nx ⊢
        refine Ev.step (fun k => by rw [quote_Put.j1]) ?_
        refine evp rfl ?_
        refine evs rfl ?_
        refine evp (by simp only [List.length_cons, List.length_nil]; omega) ?_
        rw [w64_succ (by omega)]
        exact nx
      by_cases c1 : c = 34
      · refine evp c1 ?_
        rw [show (c == 34) = true from by rw [beq_iff_eq]; exact c1]
        exact yes (.inl c1)
      · refine evn c1 ?_
        by_cases c2 : c = 92
        · rw [show (c == 92) = true from by rw [beq_iff_eq]; exact c2]
          exact yes (.inr c2)
        · rw [show (c == 92) = false from by rw [beq_eq_false_iff_ne]; exact c2]
          refine Ev.step (fun k => by rw [quote_Put.j1]) ?_
          refine evn (by simp) ?_
          by_cases c3 : c = 10
          · rw [show encB c = [92, 110] from by unfold encB; rw [if_neg p, if_neg (fun z => z.elim c1 c2), if_pos c3]] at nx ⊢
            refine evp c3 ?_
            refine evs rfl ?_
            refine evp (by simp only [List.length_cons, List.length_nil]; omega) ?_
            rw [w64_succ (by omega)]
            exact nx
          · rw [show encB c = [92, 120, hx (c / 16), hx (c % 16)] from by unfold encB; rw [if_neg p, if_neg (fun z => z.elim c1 c2), if_neg c3]] at nx ⊢
            have a15 := and_nat c.toNat (by omega)
            rw [show ((c.toNat : Nat) : Int) = c from by omega] at a15
            have h1 := hex_nat (c / 16).toNat (by omega)
            rw [show (((c / 16).toNat : Nat) : Int) = c / 16 from by omega] at h1
            have h2 := hex_nat (c % 16).toNat (by omega)
            rw [show (((c % 16).toNat : Nat) : Int) = c % 16 from by omega] at h2
            refine evn c3 ?_
            rw [a15, h1, h2, w64_succ (by omega)]
            refine evp (by omega) ?_
            refine evp (by omega) ?_
            refine evp (by omega) ?_
            refine evp (by omega) ?_
            refine evs rfl ?_
            refine evp (by simp only [List.length_cons, List.length_nil]; omega) ?_
            exact nx
theorem put_ok (s : ByteArray) (hs : s.size ≤ 10000) : Ev (fun k => quote_Put.f k s) (strOfNums (putV (numsOf s))) := by
  unfold quote_Put.f
  refine evp (by omega) ?_
  unfold quote_Put.g
  have := put_loop s hs s.size 0 [34] (by omega) (by simp)
  rw [List.drop_zero] at this
  exact this
theorem rd_last (i : List ByteArray) (z : ByteArray) (h : i.length < 1000) : 0 ≤ wrap64 (((i ++ [z]).length : Int) - 1) ∧ wrap64 (((i ++ [z]).length : Int) - 1) < ((i ++ [z]).length : Int) ∧ rdOf ByteArray.empty (i ++ [z]) (wrap64 (((i ++ [z]).length : Int) - 1)) = z := by
  have hl : (i ++ [z]).length = i.length + 1 := by simp
  rw [hl, w64_id (by omega) (by omega)]
  refine ⟨by omega, by omega, ?_⟩
  unfold rdOf
  rw [show (((i.length + 1 : Nat) : Int) - 1).toNat = i.length from by omega, List.getD_eq_getElem?_getD]
  simp
theorem signs_ok {c : Int} (h0 : 0 ≤ c) (h1 : c < 256) : ∃ i, i.length < 10 ∧ Ev (fun k => regimenref11_Signs.f k c) (i ++ [strOfNums (encB c)]) := by
  have t1 : Int.tdiv c 16 = c / 16 := Int.tdiv_eq_ediv_of_nonneg h0
  have t2 : Int.tmod c 16 = c % 16 := Int.tmod_eq_emod_of_nonneg h0
  have e1 : (⟨#[48, 49, 50, 51, 52, 53, 54, 55, 56, 57, 97, 98, 99, 100, 101, 102]⟩ : ByteArray).extract (c / 16).toNat (c / 16 + 1).toNat = strOfNums [hx (c / 16)] := by
    have := hexs_nat (c / 16).toNat (by omega)
    rw [show (c / 16 + 1).toNat = (c / 16).toNat + 1 from by omega, this, show (((c / 16).toNat : Nat) : Int) = c / 16 from by omega]
  have e2 : (⟨#[48, 49, 50, 51, 52, 53, 54, 55, 56, 57, 97, 98, 99, 100, 101, 102]⟩ : ByteArray).extract (c % 16).toNat (c % 16 + 1).toNat = strOfNums [hx (c % 16)] := by
    have := hexs_nat (c % 16).toNat (by omega)
    rw [show (c % 16 + 1).toNat = (c % 16).toNat + 1 from by omega, this, show (((c % 16).toNat : Nat) : Int) = c % 16 from by omega]
  have x2 : (⟨#[92, 120]⟩ : ByteArray) = strOfNums [92, 120] := by decide +kernel
  have x1 : (⟨#[92, 110]⟩ : ByteArray) = strOfNums [92, 110] := by decide +kernel
  have x3 : (⟨#[92]⟩ : ByteArray) = strOfNums [92] := by decide +kernel
  have start : ∀ r, Ev (fun k => if c = 10 then (if ([strOfNums [92, 120, hx (c / 16), hx (c % 16)]] : List ByteArray).length < 8796093022208 then (regimenref11_Signs.j0 k c ([strOfNums [92, 120, hx (c / 16), hx (c % 16)]] ++ [(⟨#[92, 110]⟩ : ByteArray)])) else (none)) else (regimenref11_Signs.j0 k c [strOfNums [92, 120, hx (c / 16), hx (c % 16)]])) r → Ev (fun k => regimenref11_Signs.f k c) r := by
    intro r hr
    unfold regimenref11_Signs.f
    rw [t1, t2, show c / 16 % 256 = c / 16 from by omega, show (c / 16 + 1) % 256 = c / 16 + 1 from by omega, show (c % 16 + 1) % 256 = c % 16 + 1 from by omega, e1, e2, x2, str_app, str_app]
    refine evp (by omega) ?_
    refine evp (by omega) ?_
    refine evp (by omega) ?_
    refine evp (by rw [strOfNums_size]; simp) ?_
    refine evp (by omega) ?_
    refine evp (by omega) ?_
    refine evp (by omega) ?_
    refine evp (by rw [strOfNums_size, strOfNums_size]; simp) ?_
    refine evs rfl ?_
    exact hr
  have j1n : ∀ t : List ByteArray, ¬ plainP c → ¬ (c = 34 ∨ c = 92) → Ev (fun k => regimenref11_Signs.j1 k c t false) t := by
    intro t p q
    refine Ev.step (fun k => by rw [regimenref11_Signs.j1]) ?_
    refine evn (by simp) ?_
    by_cases c1 : c ≥ 32
    · refine evp c1 ?_
      refine evn (fun c2 => p ⟨c1, c2, fun z => q (.inl z), fun z => q (.inr z)⟩) ?_
      exact Ev.now _
    · exact evn c1 (Ev.now _)
  have j0n : ∀ t : List ByteArray, ¬ plainP c → ¬ (c = 34 ∨ c = 92) → Ev (fun k => regimenref11_Signs.j0 k c t) t := by
    intro t p q
    refine Ev.step (fun k => by rw [regimenref11_Signs.j0]) ?_
    refine evn (fun z => q (.inl z)) ?_
    rw [show (c == 92) = false from by rw [beq_eq_false_iff_ne]; exact fun z => q (.inr z)]
    exact j1n t p q
  by_cases c10 : c = 10
  · have p : ¬ plainP c := by rw [c10]; decide
    have q : ¬ (c = 34 ∨ c = 92) := by omega
    refine ⟨[strOfNums [92, 120, hx (c / 16), hx (c % 16)]], by simp, start _ ?_⟩
    refine evp c10 ?_
    refine evp (by simp) ?_
    rw [show encB c = [92, 110] from by unfold encB; rw [if_neg p, if_neg q, if_pos c10], x1]
    exact j0n _ p q
  · by_cases q : c = 34 ∨ c = 92
    · have p : ¬ plainP c := fun z => q.elim z.2.2.1 z.2.2.2
      have yes : Ev (fun k => regimenref11_Signs.j1 k c [strOfNums [92, 120, hx (c / 16), hx (c % 16)]] true) ([strOfNums [92, 120, hx (c / 16), hx (c % 16)]] ++ [strOfNums (encB c)]) := by
        refine Ev.step (fun k => by rw [regimenref11_Signs.j1]) ?_
        refine evp rfl ?_
        refine evs rfl ?_
        refine evp (by rw [strOfNums_size]; simp) ?_
        refine evp (by simp) ?_
        rw [x3, str_app, show encB c = [92, c] from by unfold encB; rw [if_neg p, if_pos q]]
        exact Ev.now _
      refine ⟨[strOfNums [92, 120, hx (c / 16), hx (c % 16)]], by simp, start _ ?_⟩
      refine evn c10 ?_
      refine Ev.step (fun k => by rw [regimenref11_Signs.j0]) ?_
      by_cases c1 : c = 34
      · exact evp c1 yes
      · refine evn c1 ?_
        rw [show (c == 92) = true from by rw [beq_iff_eq]; omega]
        exact yes
    · by_cases p : plainP c
      · refine ⟨[strOfNums [92, 120, hx (c / 16), hx (c % 16)]], by simp, start _ ?_⟩
        refine evn c10 ?_
        refine Ev.step (fun k => by rw [regimenref11_Signs.j0]) ?_
        refine evn (fun z => q (.inl z)) ?_
        rw [show (c == 92) = false from by rw [beq_eq_false_iff_ne]; exact fun z => q (.inr z)]
        refine Ev.step (fun k => by rw [regimenref11_Signs.j1]) ?_
        refine evn (by simp) ?_
        refine evp p.1 ?_
        refine evp p.2.1 ?_
        refine evp (by simp) ?_
        rw [show encB c = [c] from if_pos p]
        exact Ev.now _
      · refine ⟨[], by simp, start _ ?_⟩
        refine evn c10 ?_
        rw [show encB c = [92, 120, hx (c / 16), hx (c % 16)] from by unfold encB; rw [if_neg p, if_neg q, if_neg c10]]
        exact j0n _ p q
theorem ref_put_loop (s : ByteArray) (hs : s.size ≤ 10000) (e : Nat) : ∀ (i : Nat) (a : List Int), i + e = s.size → a.length ≤ 4 * i + 1 → Ev (fun k => regimenref11_Put.l0 k s (strOfNums a) (i : Int)) (strOfNums (a ++ (encAll ((numsOf s).drop i) ++ [34]))) := by
  have hl := nums_len s
  induction e with
  | zero =>
    intro i a h ha
    refine Ev.step (fun k => by rw [regimenref11_Put.l0]) ?_
    refine evn (by omega) ?_
    refine evp (by rw [strOfNums_size]; omega) ?_
    rw [List.drop_eq_nil_of_le (by omega), show (⟨#[34]⟩ : ByteArray) = strOfNums [34] from by decide +kernel, str_app]
    exact Ev.now _
  | succ e ih =>
    intro i a h ha
    have hi : i < (numsOf s).length := by omega
    have b := byte_at s i
    have bl := encB_len ((numsOf s).getD i 0)
    have dr : (numsOf s).drop i = (numsOf s).getD i 0 :: (numsOf s).drop (i + 1) := by
      rw [List.drop_eq_getElem_cons hi, List.getD_eq_getElem?_getD, List.getElem?_eq_getElem hi]
      rfl
    have nx := ih (i + 1) (a ++ encB ((numsOf s).getD i 0)) (by omega) (by rw [List.length_append]; omega)
    obtain ⟨z, zl, hz⟩ := signs_ok b.1 b.2
    obtain ⟨r0, r1, r2⟩ := rd_last z (strOfNums (encB ((numsOf s).getD i 0))) (by omega)
    rw [dr, encAll_cons, List.append_assoc, ← List.append_assoc a]
    refine Ev.step (fun k => by rw [regimenref11_Put.l0]) ?_
    refine evp (by omega) ?_
    refine evp (by omega) ?_
    rw [bt_nums, w64_succ (by omega)]
    refine Ev.bind hz ?_
    refine evp r0 ?_
    refine evp r1 ?_
    rw [r2]
    refine evp (by rw [strOfNums_size, strOfNums_size]; omega) ?_
    rw [str_app]
    exact nx
theorem ref_put_ok (s : ByteArray) (hs : s.size ≤ 10000) : Ev (fun k => regimenref11_Put.f k s) (strOfNums (putV (numsOf s))) := by
  unfold regimenref11_Put.f
  have := ref_put_loop s hs s.size 0 [34] (by omega) (by simp)
  rw [List.drop_zero] at this
  rw [show (⟨#[34]⟩ : ByteArray) = strOfNums [34] from by decide +kernel]
  exact this
end Go.Proofs.Ytbnkjchhbjbbnaa.Num
