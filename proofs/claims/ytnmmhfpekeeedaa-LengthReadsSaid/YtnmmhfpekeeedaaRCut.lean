/- Texts that are parted at a byte, by value. -/
import Derived.Test.YtnmmhfpekeeedaaPRx0
import Derived.Test.YtnmmhfpekeeedaaRBytes
namespace Go.Proofs.Ytnmmhfpekeeedaa.Num
set_option linter.unusedVariables false
set_option linter.unusedSimpArgs false
open Go.RowKit Go.Proofs.Ytnmmhfpekeeedaa.PR Go.Proofs.YtnmmhfpekeeedaaW.PrintWords Go.Proofs.YtnmmhfpekeeedaaW.PrintMore

theorem tl_eq (s t : ByteArray) : s.toList = t.toList ↔ s = t := by
  rw [ByteArray.toList_eq, ByteArray.toList_eq]
  constructor
  · intro h
    exact ByteArray.ext (Array.ext' h)
  · rintro rfl
    rfl
theorem nums_inj {s t : ByteArray} (h : numsOf s = numsOf t) : s = t := by rw [← str_nums s, ← str_nums t, h]
/-- What stands ahead of the first c. -/
def bef (c : Int) : List Int → List Int
  | [] => []
  | x :: t => if x = c then [] else x :: bef c t
theorem bef_none {c : Int} : ∀ {l : List Int}, c ∉ l → bef c l = l
  | [], _ => rfl
  | x :: t, h => by
    rw [show bef c (x :: t) = x :: bef c t from if_neg (fun e => h (by simp [e])), bef_none (fun q => h (by simp [q]))]
theorem bef_some {c : Int} : ∀ {l : List Int}, c ∈ l → l = bef c l ++ c :: l.drop ((bef c l).length + 1) ∧ c ∉ bef c l
  | [], h => by cases h
  | x :: t, h => by
    by_cases e : x = c
    · subst e
      rw [show bef x (x :: t) = [] from if_pos rfl]
      exact ⟨rfl, by simp⟩
    · rw [show bef c (x :: t) = x :: bef c t from if_neg e]
      have hm : c ∈ t := by
        rcases List.mem_cons.1 h with q | q
        · exact absurd q.symm e
        · exact q
      obtain ⟨h1, h2⟩ := bef_some hm
      refine ⟨?_, ?_⟩
      · rw [List.cons_append, List.length_cons, List.drop_succ_cons, ← h1]
      · intro q
        rcases List.mem_cons.1 q with q | q
        · exact e q.symm
        · exact h2 q
theorem bef_of {c : Int} : ∀ {a r : List Int}, c ∉ a → bef c (a ++ c :: r) = a
  | [], r, _ => if_pos rfl
  | x :: t, r, h => by
    rw [List.cons_append, show bef c (x :: (t ++ c :: r)) = x :: bef c (t ++ c :: r) from if_neg (fun e => h (by simp [e])), bef_of (fun q => h (by simp [q]))]
theorem bef_le {c : Int} {l : List Int} (h : c ∈ l) : (bef c l).length < l.length := by
  have := congrArg List.length (bef_some h).1
  rw [List.length_append, List.length_cons] at this
  omega
theorem bef_take {c : Int} {l : List Int} (h : c ∈ l) : l.take (bef c l).length = bef c l := by
  have e := congrArg (List.take (bef c l).length) (bef_some h).1
  rw [List.take_left' rfl] at e
  exact e
theorem index_list (c : UInt8) : ∀ L : List UInt8, Lib.indexByte L c = if (c.toNat : Int) ∈ L.map (fun b => (b.toNat : Int)) then ((bef (c.toNat : Int) (L.map fun b => (b.toNat : Int))).length : Int) else -1
  | [] => rfl
  | b :: t => by
    have ih := index_list c t
    show (if b == c then 0 else if Lib.indexByte t c == -1 then -1 else Lib.indexByte t c + 1) = _
    rw [List.map_cons]
    by_cases e : b = c
    · subst e
      rw [if_pos (by simp), if_pos (by simp), show bef (b.toNat : Int) ((b.toNat : Int) :: _) = [] from if_pos rfl]
      rfl
    · have ne : (b.toNat : Int) ≠ (c.toNat : Int) := fun q => e (UInt8.toNat_inj.1 (by omega))
      rw [if_neg (by simpa using e), show bef (c.toNat : Int) ((b.toNat : Int) :: t.map _) = (b.toNat : Int) :: bef (c.toNat : Int) (t.map _) from if_neg ne]
      by_cases m : (c.toNat : Int) ∈ t.map (fun b => (b.toNat : Int))
      · rw [if_pos m] at ih
        have n1 : ¬ ((Lib.indexByte t c == -1) = true) := by
          rw [beq_iff_eq, ih]
          omega
        rw [if_neg n1, if_pos (List.mem_cons_of_mem _ m), ih, List.length_cons]
        omega
      · rw [if_neg m] at ih
        have n1 : (Lib.indexByte t c == -1) = true := by rw [ih]; rfl
        have n2 : ¬ ((c.toNat : Int) ∈ (b.toNat : Int) :: t.map (fun b => (b.toNat : Int))) := fun q => by
          rcases List.mem_cons.1 q with q | q
          · exact ne q.symm
          · exact m q
        rw [if_pos n1, if_neg n2]
theorem index_nums (s : ByteArray) (c : UInt8) : Lib.indexByte s.data.toList c = if (c.toNat : Int) ∈ numsOf s then ((bef (c.toNat : Int) (numsOf s)).length : Int) else -1 := index_list c _
theorem nums_one (b : UInt8) : numsOf (⟨#[b]⟩ : ByteArray) = [(b.toNat : Int)] := rfl
end Go.Proofs.Ytnmmhfpekeeedaa.Num
