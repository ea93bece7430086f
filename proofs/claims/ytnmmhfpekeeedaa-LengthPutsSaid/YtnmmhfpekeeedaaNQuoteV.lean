/- Texts within quotes (layer 11): the program's and the reference's, by value. -/
import Derived.Test.YtnmmhfpekeeedaaPNx0
import Derived.Test.YtnmmhfpekeeedaaPNx2
import Derived.Test.YtnmmhfpekeeedaaPNx3
import Derived.Test.YtnmmhfpekeeedaaPNx4
import Derived.Test.YtnmmhfpekeeedaaNBytes
namespace Go.Proofs.Ytnmmhfpekeeedaa.Num
set_option linter.unusedVariables false
set_option linter.unusedSimpArgs false
open Go.RowKit Go.Proofs.Ytnmmhfpekeeedaa.PN Go.Proofs.YtnmmhfpekeeedaaW.PrintWords Go.Proofs.YtnmmhfpekeeedaaW.PrintMore

/-! ### One byte's signs -/
def plainP (c : Int) : Prop := 32 ≤ c ∧ c ≤ 126 ∧ c ≠ 34 ∧ c ≠ 92
instance (c : Int) : Decidable (plainP c) := by unfold plainP; infer_instance
def dg (c : Int) : Int := if 48 ≤ c ∧ c ≤ 57 then c - 48 else if 97 ≤ c ∧ c ≤ 102 then c - 87 else -1
def hx (i : Int) : Int := if i < 10 then 48 + i else 87 + i
def encB (c : Int) : List Int := if plainP c then [c] else if c = 34 ∨ c = 92 then [92, c] else if c = 10 then [92, 110] else [92, 120, hx (c / 16), hx (c % 16)]
theorem dg_hx : ∀ i : Nat, i < 16 → dg (hx (i : Int)) = i := by decide
theorem dg_range (c : Int) : -1 ≤ dg c ∧ dg c < 16 := by
  unfold dg
  split
  · omega
  · split <;> omega
theorem plain_ok (c : Int) : quote_plain.f c = some (decide (plainP c)) := by
  unfold quote_plain.f
  by_cases c1 : c ≥ 32
  · rw [if_pos c1]
    by_cases c2 : c ≤ 126
    · rw [if_pos c2]
      by_cases c3 : c = 34
      · rw [if_pos c3, decide_eq_false (fun h : plainP c => h.2.2.1 c3)]
      · rw [if_neg c3]
        congr 1
        by_cases c4 : c = 92
        · rw [decide_eq_false (fun h : plainP c => h.2.2.2 c4)]
          simp [c4]
        · rw [decide_eq_true (show plainP c from ⟨c1, c2, c3, c4⟩)]
          simpa using c4
    · rw [if_neg c2, decide_eq_false (fun h : plainP c => c2 h.2.1)]
  · rw [if_neg c1, decide_eq_false (fun h : plainP c => c1 h.1)]
theorem idx_nat : ∀ i : Nat, i < 256 → Lib.indexByte (⟨#[48, 49, 50, 51, 52, 53, 54, 55, 56, 57, 97, 98, 99, 100, 101, 102]⟩ : ByteArray).data.toList i.toUInt8 = dg (i : Int) := by decide +kernel
theorem idx_ok {c : Int} (h0 : 0 ≤ c) (h1 : c < 256) : strings_IndexByte.f (⟨#[48, 49, 50, 51, 52, 53, 54, 55, 56, 57, 97, 98, 99, 100, 101, 102]⟩ : ByteArray) c = some (dg c) := by
  unfold strings_IndexByte.f
  rw [idx_nat c.toNat (by omega), show ((c.toNat : Nat) : Int) = c from by omega]
theorem or_nat : ∀ a : Nat, a < 16 → ∀ b : Nat, b < 16 → (Go.bits .or .i64 ((a : Int) * 16) (b : Int)) % 256 = 16 * (a : Int) + b := by decide +kernel
theorem and_nat : ∀ a : Nat, a < 256 → Go.bits .and .u8 (a : Int) 15 = (a : Int) % 16 := by decide +kernel
theorem hex_nat : ∀ i : Nat, i < 16 → bt (⟨#[48, 49, 50, 51, 52, 53, 54, 55, 56, 57, 97, 98, 99, 100, 101, 102]⟩ : ByteArray) (i : Int) = hx (i : Int) := by decide +kernel
theorem hexs_nat : ∀ i : Nat, i < 16 → (⟨#[48, 49, 50, 51, 52, 53, 54, 55, 56, 57, 97, 98, 99, 100, 101, 102]⟩ : ByteArray).extract i (i + 1) = strOfNums [hx (i : Int)] := by decide +kernel
/-- What the byte at place p means, and how many bytes it has; 0: it is none. -/
def oneP (l : List Int) (p : Nat) : Int × Nat :=
  if plainP (l.getD p 0) then (l.getD p 0, 1)
  else if l.getD p 0 = 92 ∧ p + 1 < l.length then
    (if l.getD (p + 1) 0 = 34 ∨ l.getD (p + 1) 0 = 92 then (l.getD (p + 1) 0, 2)
    else if l.getD (p + 1) 0 = 110 then (10, 2)
    else if l.getD (p + 1) 0 = 120 ∧ p + 3 < l.length ∧ 0 ≤ dg (l.getD (p + 2) 0) ∧ 0 ≤ dg (l.getD (p + 3) 0) then (16 * dg (l.getD (p + 2) 0) + dg (l.getD (p + 3) 0), 4)
    else (0, 0))
  else (0, 0)
theorem getD_drop (l : List Int) (p q : Nat) : (l.drop p).getD q 0 = l.getD (p + q) 0 := by
  rw [List.getD_eq_getElem?_getD, List.getD_eq_getElem?_getD, List.getElem?_drop]
theorem oneP_drop (l : List Int) (p : Nat) : oneP (l.drop p) 0 = oneP l p := by
  unfold oneP
  rw [getD_drop, getD_drop, getD_drop, getD_drop, List.length_drop]
  simp only [Nat.zero_add, Nat.add_zero]
  have e1 : (1 < l.length - p) = (p + 1 < l.length) := by rw [eq_iff_iff]; omega
  have e3 : (3 < l.length - p) = (p + 3 < l.length) := by rw [eq_iff_iff]; omega
  simp only [e1, e3]
theorem hexv_ok (s : ByteArray) (h2 : 2 ≤ s.size) : quote_hex.f s = some (if 0 ≤ dg ((numsOf s).getD 0 0) ∧ 0 ≤ dg ((numsOf s).getD 1 0) then (16 * dg ((numsOf s).getD 0 0) + dg ((numsOf s).getD 1 0), true) else (0, false)) := by
  have b0 := byte_at s 0
  have b1 := byte_at s 1
  have r0 := dg_range ((numsOf s).getD 0 0)
  have r1 := dg_range ((numsOf s).getD 1 0)
  unfold quote_hex.f
  rw [if_neg (by omega), if_pos (by omega), bt0, idx_ok b0.1 b0.2, Option.bind_some, if_pos (by omega), bt1, idx_ok b1.1 b1.2, Option.bind_some]
  by_cases c0 : dg ((numsOf s).getD 0 0) < 0
  · rw [if_pos (by omega), if_neg (fun h => by omega)]
  · rw [if_neg (by omega)]
    by_cases c1 : dg ((numsOf s).getD 1 0) < 0
    · rw [if_pos (by omega), if_neg (fun h => by omega)]
    · rw [if_neg (by omega), if_pos ⟨by omega, by omega⟩, w64_id (by omega) (by omega)]
      have o := or_nat (dg ((numsOf s).getD 0 0)).toNat (by omega) (dg ((numsOf s).getD 1 0)).toNat (by omega)
      rw [show (((dg ((numsOf s).getD 0 0)).toNat : Nat) : Int) = dg ((numsOf s).getD 0 0) from by omega, show (((dg ((numsOf s).getD 1 0)).toNat : Nat) : Int) = dg ((numsOf s).getD 1 0) from by omega] at o
      rw [o]
theorem one_ok (s : ByteArray) (h0 : 0 < s.size) (hz : s.size < 1000000) : Ev (fun k => quote_one.f k s) ((oneP (numsOf s) 0).1, ((oneP (numsOf s) 0).2 : Int)) := by
  have hl := nums_len s
  unfold quote_one.f
  refine evp (by omega) ?_
  rw [bt0]
  refine evs (plain_ok _) ?_
  by_cases p : plainP ((numsOf s).getD 0 0)
  · refine evp (decide_eq_true p) ?_
    rw [show oneP (numsOf s) 0 = ((numsOf s).getD 0 0, 1) from if_pos p]
    exact Ev.now _
  · refine evn (by rw [decide_eq_false p]; simp) ?_
    have no : ¬ ((numsOf s).getD 0 0 = 92 ∧ 0 + 1 < (numsOf s).length) → Ev (fun k => quote_one.j0 k s true) ((oneP (numsOf s) 0).1, ((oneP (numsOf s) 0).2 : Int)) := by
      intro h
      rw [show oneP (numsOf s) 0 = (0, 0) from by unfold oneP; rw [if_neg p, if_neg h]]
      refine Ev.step (fun k => by rw [quote_one.j0]) ?_
      exact evp rfl (Ev.now _)
    by_cases c1 : (numsOf s).getD 0 0 = 92
    · refine evp c1 ?_
      by_cases c2 : (s.size : Int) < 2
      · rw [decide_eq_true c2]
        exact no (fun h => by omega)
      · rw [decide_eq_false c2]
        have e : oneP (numsOf s) 0 = (if (numsOf s).getD (0 + 1) 0 = 34 ∨ (numsOf s).getD (0 + 1) 0 = 92 then ((numsOf s).getD (0 + 1) 0, 2)
            else if (numsOf s).getD (0 + 1) 0 = 110 then (10, 2)
            else if (numsOf s).getD (0 + 1) 0 = 120 ∧ 0 + 3 < (numsOf s).length ∧ 0 ≤ dg ((numsOf s).getD (0 + 2) 0) ∧ 0 ≤ dg ((numsOf s).getD (0 + 3) 0) then (16 * dg ((numsOf s).getD (0 + 2) 0) + dg ((numsOf s).getD (0 + 3) 0), 4)
            else (0, 0)) := by
          unfold oneP
          rw [if_neg p, if_pos ⟨c1, by omega⟩]
        simp only [Nat.zero_add] at e
        refine Ev.step (fun k => by rw [quote_one.j0]) ?_
        refine evn (by simp) ?_
        refine evp (by omega) ?_
        rw [bt1]
        have yes : (numsOf s).getD 1 0 = 34 ∨ (numsOf s).getD 1 0 = 92 → Ev (fun k => quote_one.j1 k s ((numsOf s).getD 1 0) true) ((oneP (numsOf s) 0).1, ((oneP (numsOf s) 0).2 : Int)) := by
          intro h
          rw [show oneP (numsOf s) 0 = ((numsOf s).getD 1 0, 2) from by rw [e, if_pos h]]
          refine Ev.step (fun k => by rw [quote_one.j1]) ?_
          refine evp rfl ?_
          refine evp (by omega) ?_
          rw [bt1]
          exact Ev.now _
        by_cases c3 : (numsOf s).getD 1 0 = 34
        · refine evp c3 ?_
          rw [show ((numsOf s).getD 1 0 == 34) = true from by rw [beq_iff_eq]; exact c3]
          exact yes (.inl c3)
        · refine evn c3 ?_
          by_cases c4 : (numsOf s).getD 1 0 = 92
          · rw [show ((numsOf s).getD 1 0 == 92) = true from by rw [beq_iff_eq]; exact c4]
            exact yes (.inr c4)
          · rw [show ((numsOf s).getD 1 0 == 92) = false from by rw [beq_eq_false_iff_ne]; exact c4]
            rw [if_neg (fun h => h.elim c3 c4)] at e
            refine Ev.step (fun k => by rw [quote_one.j1]) ?_
            refine evn (by simp) ?_
            by_cases c5 : (numsOf s).getD 1 0 = 110
            · rw [if_pos c5] at e
              rw [e]
              exact evp c5 (Ev.now _)
            · rw [if_neg c5] at e
              refine evn c5 ?_
              by_cases c6 : (numsOf s).getD 1 0 = 120
              · refine evp c6 ?_
                refine evp (by omega) ?_
                have hs2 : (s.extract 2 s.size).size = s.size - 2 := by
                  have := congrArg List.length (nums_drop s 2)
                  rw [nums_len, List.length_drop, hl] at this
                  exact this
                by_cases c7 : 4 ≤ s.size
                · have hh := hexv_ok (s.extract 2 s.size) (by omega)
                  rw [nums_drop, getD_drop, getD_drop] at hh
                  refine evs hh ?_
                  by_cases c8 : 0 ≤ dg ((numsOf s).getD 2 0) ∧ 0 ≤ dg ((numsOf s).getD 3 0)
                  · rw [if_pos ⟨c6, by omega, c8.1, c8.2⟩] at e
                    rw [e]
                    rw [show (if 0 ≤ dg ((numsOf s).getD (2 + 0) 0) ∧ 0 ≤ dg ((numsOf s).getD (2 + 1) 0) then (16 * dg ((numsOf s).getD (2 + 0) 0) + dg ((numsOf s).getD (2 + 1) 0), true) else (0, false)) = (16 * dg ((numsOf s).getD 2 0) + dg ((numsOf s).getD 3 0), true) from if_pos c8]
                    exact evp rfl (Ev.now _)
                  · rw [if_neg (fun h => c8 ⟨h.2.2.1, h.2.2.2⟩)] at e
                    rw [e]
                    rw [show (if 0 ≤ dg ((numsOf s).getD (2 + 0) 0) ∧ 0 ≤ dg ((numsOf s).getD (2 + 1) 0) then (16 * dg ((numsOf s).getD (2 + 0) 0) + dg ((numsOf s).getD (2 + 1) 0), true) else (0, false)) = (0, false) from if_neg c8]
                    exact evn (by simp) (Ev.now _)
                · rw [if_neg (fun h => by omega)] at e
                  rw [e]
                  have hh : quote_hex.f (s.extract 2 s.size) = some (0, false) := by
                    unfold quote_hex.f
                    rw [if_pos (by omega)]
                  refine evs hh ?_
                  exact evn (by simp) (Ev.now _)
              · rw [if_neg (fun h => c6 h.1)] at e
                rw [e]
                exact evn c6 (Ev.now _)
    · refine evn c1 ?_
      exact no (fun h => c1 h.1)
/-! ### Reading -/
inductive RV (l : List Int) : Nat → List Int → ByteArray × Int → Prop
  | out (p : Nat) (a : List Int) (h : ¬ p < l.length) : RV l p a ((⟨#[]⟩ : ByteArray), 0)
  | quote (p : Nat) (a : List Int) (h : p < l.length) (q : l.getD p 0 = 34) : RV l p a (strOfNums a, ((p + 1 : Nat) : Int))
  | bad (p : Nat) (a : List Int) (h : p < l.length) (q : l.getD p 0 ≠ 34) (z : (oneP l p).2 = 0) : RV l p a ((⟨#[]⟩ : ByteArray), 0)
  | step (p : Nat) (a : List Int) (R : ByteArray × Int) (h : p < l.length) (q : l.getD p 0 ≠ 34) (z : (oneP l p).2 ≠ 0) (n : RV l (p + (oneP l p).2) (a ++ [(oneP l p).1]) R) : RV l p a R
theorem RV.ex (l : List Int) (d : Nat) : ∀ (p : Nat) (a : List Int), l.length - p ≤ d → ∃ R, RV l p a R := by
  induction d with
  | zero => intro p a h; exact ⟨_, .out p a (by omega)⟩
  | succ d ih =>
    intro p a h
    by_cases c1 : p < l.length
    · by_cases c2 : l.getD p 0 = 34
      · exact ⟨_, .quote p a c1 c2⟩
      · by_cases c3 : (oneP l p).2 = 0
        · exact ⟨_, .bad p a c1 c2 c3⟩
        · obtain ⟨R, hR⟩ := ih (p + (oneP l p).2) (a ++ [(oneP l p).1]) (by omega)
          exact ⟨R, .step p a R c1 c2 c3 hR⟩
    · exact ⟨_, .out p a c1⟩
theorem oneP_le (l : List Int) (p : Nat) (h : p < l.length) : p + (oneP l p).2 ≤ l.length := by
  unfold oneP
  split
  · show p + 1 ≤ _
    omega
  · split
    · rename_i h2
      split
      · show p + 2 ≤ _
        omega
      · split
        · show p + 2 ≤ _
          omega
        · split
          · show p + 4 ≤ _
            omega
          · show p + 0 ≤ _
            omega
    · show p + 0 ≤ _
      omega
theorem read_loop (s : ByteArray) (hs : s.size < 1000000) {p : Nat} {a : List Int} {R : ByteArray × Int} (h : RV (numsOf s) p a R) : a.length ≤ p → 0 < p → p ≤ s.size → Ev (fun k => quote_read.l0 k s a (p : Int)) R := by
  have hl := nums_len s
  induction h with
  | out p a h =>
    intro ha hp hp2
    refine Ev.step (fun k => by rw [quote_read.l0]) ?_
    exact evn (by omega) (Ev.now _)
  | quote p a h q =>
    intro ha hp hp2
    refine Ev.step (fun k => by rw [quote_read.l0]) ?_
    refine evp (by omega) ?_
    refine evp (by omega) ?_
    rw [bt_nums, w64_succ (by omega)]
    exact evp q (Ev.now _)
  | bad p a h q z =>
    intro ha hp hp2
    refine Ev.step (fun k => by rw [quote_read.l0]) ?_
    refine evp (by omega) ?_
    refine evp (by omega) ?_
    rw [bt_nums]
    refine evn q ?_
    refine evp (by omega) ?_
    have hs2 : (s.extract p s.size).size = s.size - p := by
      have := congrArg List.length (nums_drop s p)
      rw [nums_len, List.length_drop, hl] at this
      exact this
    have o := one_ok (s.extract p s.size) (by omega) (by omega)
    rw [nums_drop, oneP_drop] at o
    rw [show ((p : Int)).toNat = p from by omega]
    refine Ev.bind o ?_
    exact evp (by show ((oneP (numsOf s) p).2 : Int) = 0; omega) (Ev.now _)
  | step p a R h q z n ih =>
    intro ha hp hp2
    have ol := oneP_le (numsOf s) p h
    refine Ev.step (fun k => by rw [quote_read.l0]) ?_
    refine evp (by omega) ?_
    refine evp (by omega) ?_
    rw [bt_nums]
    refine evn q ?_
    refine evp (by omega) ?_
    have hs2 : (s.extract p s.size).size = s.size - p := by
      have := congrArg List.length (nums_drop s p)
      rw [nums_len, List.length_drop, hl] at this
      exact this
    have o := one_ok (s.extract p s.size) (by omega) (by omega)
    rw [nums_drop, oneP_drop] at o
    rw [show ((p : Int)).toNat = p from by omega]
    refine Ev.bind o ?_
    refine evn (by show ¬ ((oneP (numsOf s) p).2 : Int) = 0; omega) ?_
    refine evp (by omega) ?_
    rw [w64_id (x := (p : Int) + ((oneP (numsOf s) p).2 : Int)) (by omega) (by omega), show (p : Int) + ((oneP (numsOf s) p).2 : Int) = ((p + (oneP (numsOf s) p).2 : Nat) : Int) from by omega]
    exact ih (by simp only [List.length_append, List.length_cons, List.length_nil]; omega) (by omega) (by omega)
/-- The text at the begin. -/
def ReadV (l : List Int) (R : ByteArray × Int) : Prop := if l.getD 0 0 = 34 ∧ 0 < l.length then RV l 1 [] R else R = ((⟨#[]⟩ : ByteArray), 0)
theorem ReadV.ex (l : List Int) : ∃ R, ReadV l R := by
  unfold ReadV
  split
  · exact RV.ex l l.length 1 [] (by omega)
  · exact ⟨_, rfl⟩
theorem read_ok (s : ByteArray) (hs : s.size < 1000000) {R : ByteArray × Int} (h : ReadV (numsOf s) R) : Ev (fun k => quote_read.f k s) R := by
  have hl := nums_len s
  unfold ReadV at h
  have no : ¬ ((numsOf s).getD 0 0 = 34 ∧ 0 < (numsOf s).length) → Ev (fun k => quote_read.j0 k s true) R := by
    intro q
    rw [if_neg q] at h
    rw [h]
    refine Ev.step (fun k => by rw [quote_read.j0]) ?_
    exact evp rfl (Ev.now _)
  unfold quote_read.f
  by_cases c1 : s.toList = ([] : List UInt8)
  · have e := (toList_nil s).1 c1
    exact evp c1 (no (fun q => by rw [e] at q; simp at q))
  · have n1 : numsOf s ≠ [] := fun e => c1 ((toList_nil s).2 e)
    have l0 : 0 < (numsOf s).length := List.length_pos_iff.2 n1
    refine evn c1 ?_
    refine evp (by omega) ?_
    rw [bt0]
    by_cases c2 : (numsOf s).getD 0 0 = 34
    · rw [show ((numsOf s).getD 0 0 != 34) = false from by rw [bne_eq_false_iff_eq]; exact c2]
      rw [if_pos ⟨c2, l0⟩] at h
      refine Ev.step (fun k => by rw [quote_read.j0]) ?_
      refine evn (by simp) ?_
      exact read_loop (p := 1) s hs h (by simp) (by omega) (by omega)
    · rw [show ((numsOf s).getD 0 0 != 34) = true from by rw [bne_iff_ne]; exact c2]
      exact no (fun q => c2 q.1)
/-- What Get and Span tell. -/
def getQ (R : ByteArray × Int) (n : Nat) : ByteArray × Int := if R.2 = 0 ∨ R.2 < n then ((⟨#[]⟩ : ByteArray), 2) else (R.1, 0)
theorem getq_ok (s : ByteArray) (hs : s.size < 1000000) {R : ByteArray × Int} (h : ReadV (numsOf s) R) : Ev (fun k => quote_Get.f k s) (getQ R s.size) := by
  unfold quote_Get.f getQ
  refine Ev.bind (read_ok s hs h) ?_
  by_cases c1 : R.2 = 0
  · refine evp c1 ?_
    rw [if_pos (.inl c1)]
    exact Ev.now _
  · refine evn c1 ?_
    by_cases c2 : R.2 < (s.size : Int)
    · refine evp c2 ?_
      rw [if_pos (.inr c2)]
      exact Ev.now _
    · refine evn c2 ?_
      rw [if_neg (fun h => h.elim c1 c2)]
      exact Ev.now _
theorem span_ok (s : ByteArray) (hs : s.size < 1000000) {R : ByteArray × Int} (h : ReadV (numsOf s) R) : Ev (fun k => quote_Span.f k s) (R.2, decide (R.2 > 0)) := by
  unfold quote_Span.f
  refine Ev.bind (read_ok s hs h) ?_
  exact Ev.now _
end Go.Proofs.Ytnmmhfpekeeedaa.Num
