/- Numbers as digits to the base 2^16, the lowest first: plain facts on lists, no program. -/
import Derived.Test.YtcgdhpnobgimfaaPZx0
namespace Go.Proofs.Ytcgdhpnobgimfaa.Num
set_option linter.unusedVariables false
set_option linter.unusedSimpArgs false
open Go.RowKit Go.Proofs.Ytcgdhpnobgimfaa.PZ Go.Proofs.YtcgdhpnobgimfaaW.PrintWords Go.Proofs.YtcgdhpnobgimfaaW.PrintMore

/-- The number that digits make. -/
def dv : List Int → Int
  | [] => 0
  | x :: xs => x + 65536 * dv xs

def dok (l : List Int) : Prop := ∀ x, x ∈ l → 0 ≤ x ∧ x < 65536

theorem dok_nil : dok [] := fun x h => by cases h
theorem dok_cons {x : Int} {l : List Int} (h : 0 ≤ x ∧ x < 65536) (hl : dok l) : dok (x :: l) := by
  intro y hy
  rcases List.mem_cons.1 hy with rfl | hy
  · exact h
  · exact hl y hy
theorem dok_append {a b : List Int} (ha : dok a) (hb : dok b) : dok (a ++ b) := by
  intro y hy
  rcases List.mem_append.1 hy with hy | hy
  · exact ha y hy
  · exact hb y hy
theorem dok_snoc {a : List Int} {x : Int} (ha : dok a) (h : 0 ≤ x ∧ x < 65536) : dok (a ++ [x]) := dok_append ha (dok_cons h dok_nil)
theorem dok_tail {x : Int} {l : List Int} (h : dok (x :: l)) : dok l := fun y hy => h y (List.mem_cons_of_mem _ hy)
theorem dok_take {l : List Int} (h : dok l) (n : Nat) : dok (l.take n) := fun y hy => h y (List.mem_of_mem_take hy)
theorem dok_getD {l : List Int} (h : dok l) (i : Nat) : 0 ≤ l.getD i 0 ∧ l.getD i 0 < 65536 := by
  by_cases hi : i < l.length
  · rw [List.getD_eq_getElem?_getD, List.getElem?_eq_getElem hi]
    exact h _ (List.getElem_mem hi)
  · rw [List.getD_eq_getElem?_getD, List.getElem?_eq_none (by omega)]
    exact ⟨by decide, by decide⟩
theorem dok_rep (n : Nat) : dok (List.replicate n 0) := by
  intro y hy
  rw [List.mem_replicate] at hy
  omega

theorem dv_append (a b : List Int) : dv (a ++ b) = dv a + 65536 ^ a.length * dv b := by
  induction a with
  | nil => simp [dv]
  | cons x a ih =>
    simp only [List.cons_append, dv, ih, List.length_cons, Int.pow_succ]
    rw [Int.mul_add, ← Int.mul_assoc, Int.mul_comm 65536 (65536 ^ a.length)]
    omega
theorem dv_snoc (a : List Int) (x : Int) : dv (a ++ [x]) = dv a + 65536 ^ a.length * x := by
  rw [dv_append]
  simp [dv]
theorem pow_pos' (n : Nat) : (0 : Int) < 65536 ^ n := Int.pow_pos (by decide)
theorem dv_nonneg {l : List Int} (h : dok l) : 0 ≤ dv l := by
  induction l with
  | nil => exact Int.le_refl _
  | cons x l ih =>
    have h1 := ih (dok_tail h)
    have h2 := h x List.mem_cons_self
    simp only [dv]
    omega
theorem dv_lt {l : List Int} (h : dok l) : dv l < 65536 ^ l.length := by
  induction l with
  | nil => simp [dv]
  | cons x l ih =>
    have h1 := ih (dok_tail h)
    have h2 := h x List.mem_cons_self
    simp only [dv, List.length_cons, Int.pow_succ]
    omega
theorem dv_take_succ (l : List Int) (i : Nat) : dv (l.take (i + 1)) = dv (l.take i) + 65536 ^ i * l.getD i 0 := by
  by_cases hi : i < l.length
  · rw [List.take_succ_eq_append_getElem hi, dv_snoc, List.length_take, Nat.min_eq_left (by omega)]
    rw [List.getD_eq_getElem?_getD, List.getElem?_eq_getElem hi]
    rfl
  · rw [List.take_of_length_le (by omega), List.take_of_length_le (by omega), List.getD_eq_getElem?_getD, List.getElem?_eq_none (by omega)]
    simp
theorem dv_take_all (l : List Int) (i : Nat) (h : l.length ≤ i) : dv (l.take i) = dv l := by rw [List.take_of_length_le h]
theorem dv_take_lt {l : List Int} (h : dok l) (i : Nat) : 0 ≤ dv (l.take i) ∧ dv (l.take i) < 65536 ^ i := by
  induction i with
  | zero => simp [dv]
  | succ i ih =>
    rw [dv_take_succ, Int.pow_succ]
    have h1 := dok_getD h i
    have h2 : 0 ≤ 65536 ^ i * l.getD i 0 := Int.mul_nonneg (Int.le_of_lt (pow_pos' i)) h1.1
    have h3 : 65536 ^ i * l.getD i 0 ≤ 65536 ^ i * 65535 := Int.mul_le_mul_of_nonneg_left (by omega) (Int.le_of_lt (pow_pos' i))
    omega
theorem dv_split (l : List Int) (i : Nat) (h : i ≤ l.length) : dv l = dv (l.take i) + 65536 ^ i * dv (l.drop i) := by
  have h1 := dv_append (l.take i) (l.drop i)
  rw [List.take_append_drop, List.length_take, Nat.min_eq_left h] at h1
  exact h1
theorem dv_set (l : List Int) (i : Nat) (v : Int) (h : i < l.length) : dv (l.set i v) = dv l + 65536 ^ i * (v - l.getD i 0) := by
  induction l generalizing i with
  | nil => simp at h
  | cons x l ih =>
    cases i with
    | zero => simp [dv]; omega
    | succ i =>
      simp only [List.set_cons_succ, dv, List.getD_cons_succ, Int.pow_succ]
      rw [ih i (by simpa using h), Int.mul_add, ← Int.mul_assoc, Int.mul_comm 65536 (65536 ^ i)]
      omega
theorem dv_rep (n : Nat) : dv (List.replicate n 0) = 0 := by
  induction n with
  | zero => rfl
  | succ n ih => simp [List.replicate_succ, dv, ih]
theorem dok_set {l : List Int} (h : dok l) (i : Nat) {v : Int} (hv : 0 ≤ v ∧ v < 65536) : dok (l.set i v) := by
  intro y hy
  rcases List.mem_or_eq_of_mem_set hy with hy | rfl
  · exact h y hy
  · exact hv
theorem rd_nat (l : List Int) (i : Nat) : rd l (i : Int) = l.getD i 0 := by simp [rd]
theorem u64_id {x : Int} (h0 : 0 ≤ x) (h1 : x < 18446744073709551616) : IntKind.u64.wrap x = x := by
  unfold IntKind.wrap
  simp [IntKind.bits, IntKind.signed]
  omega
theorem u64_mod (x : Int) : IntKind.u64.wrap x = x % 18446744073709551616 := by
  unfold IntKind.wrap
  simp [IntKind.bits, IntKind.signed]
theorem w64_id {x : Int} (h0 : -9223372036854775808 ≤ x) (h1 : x < 9223372036854775808) : wrap64 x = x := by
  unfold wrap64
  omega
theorem w64_succ {i : Nat} (h : i < 4611686018427387904) : wrap64 ((i : Int) + 1) = ((i + 1 : Nat) : Int) := by
  rw [w64_id (by omega) (by omega)]
  omega
theorem w64_add {i j : Nat} (h : i < 2305843009213693952) (h2 : j < 2305843009213693952) : wrap64 ((i : Int) + (j : Int)) = ((i + j : Nat) : Int) := by
  rw [w64_id (by omega) (by omega)]
  omega
theorem tmod_pos {a b : Int} (ha : 0 ≤ a) : Int.tmod a b = a % b := Int.tmod_eq_emod_of_nonneg ha
theorem tdiv_pos {a b : Int} (ha : 0 ≤ a) : Int.tdiv a b = a / b := Int.tdiv_eq_ediv_of_nonneg ha
theorem evp {α : Type} {c : Prop} [Decidable c] {g f : Nat → Option α} {r : α} (h : c) (k : Ev g r) : Ev (fun n => if c then g n else f n) r := Ev.congr (fun _ => if_pos h) k
theorem evs {α β : Type} {g : Option α} {f : Nat → α → Option β} {a : α} {r : β} (h : g = some a) (k : Ev (fun n => f n a) r) : Ev (fun n => g.bind (f n)) r := Ev.congr (fun n => by rw [h]; rfl) k
theorem evn {α : Type} {c : Prop} [Decidable c] {g f : Nat → Option α} {r : α} (h : ¬ c) (k : Ev f r) : Ev (fun n => if c then g n else f n) r := Ev.congr (fun _ => if_neg h) k
theorem i64_wf {a : Int} (h : (Lit.int .i64 a).wf = true) : -9223372036854775808 ≤ a ∧ a < 9223372036854775808 := by
  simp [Lit.wf, IntKind.min, IntKind.max, IntKind.bits, IntKind.signed] at h
  omega
end Go.Proofs.Ytcgdhpnobgimfaa.Num
