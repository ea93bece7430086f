/- Texts as lists of bytes, by value. -/
import Derived.Test.YtnmmhfpekeeedaaPRx0
import Derived.Test.YtnmmhfpekeeedaaRDigits
namespace Go.Proofs.Ytnmmhfpekeeedaa.Num
set_option linter.unusedVariables false
set_option linter.unusedSimpArgs false
open Go.RowKit Go.Proofs.Ytnmmhfpekeeedaa.PR Go.Proofs.YtnmmhfpekeeedaaW.PrintWords Go.Proofs.YtnmmhfpekeeedaaW.PrintMore

/-! ### Bytes -/
theorem nums_byte (s : ByteArray) : ∀ x, x ∈ numsOf s → 0 ≤ x ∧ x < 256 := by
  intro x h
  obtain ⟨b, _, rfl⟩ := List.mem_map.1 h
  have := b.toNat_lt
  omega
theorem str_nums (s : ByteArray) : strOfNums (numsOf s) = s := by
  have h : (numsOf s).map (fun n => UInt8.ofNat n.toNat) = s.data.toList := by
    unfold numsOf
    rw [List.map_map]
    conv => rhs; rw [← List.map_id s.data.toList]
    refine List.map_congr_left fun b _ => ?_
    simp
  unfold strOfNums
  rw [h]
theorem nums_str {l : List Int} (h : ∀ x, x ∈ l → 0 ≤ x ∧ x < 256) : numsOf (strOfNums l) = l := by
  show ((l.map fun n => UInt8.ofNat n.toNat).toArray.toList).map (fun b => (b.toNat : Int)) = l
  rw [List.map_map]
  conv => rhs; rw [← List.map_id l]
  refine List.map_congr_left fun x hx => ?_
  have := h x hx
  have e : (UInt8.ofNat x.toNat).toNat = x.toNat % 256 := UInt8.toNat_ofNat' 
  simp only [Function.comp, id]
  rw [e]
  omega
theorem nums_len (s : ByteArray) : (numsOf s).length = s.size := numsOf_length s
theorem bt_nums (s : ByteArray) (i : Nat) : bt s (i : Int) = (numsOf s).getD i 0 := by
  unfold bt
  by_cases h : i < s.size
  · rw [dif_pos (by simpa using h)]
    have hl : i < (numsOf s).length := by rw [nums_len]; exact h
    rw [List.getD_eq_getElem?_getD, List.getElem?_eq_getElem hl]
    simp only [Option.getD_some, numsOf, List.getElem_map, Int.toNat_natCast]
    rfl
  · rw [dif_neg (by simpa using h), List.getD_eq_getElem?_getD, List.getElem?_eq_none (by rw [nums_len]; omega)]
    rfl
theorem str_app (a b : List Int) : strOfNums a ++ strOfNums b = strOfNums (a ++ b) := by
  apply ByteArray.ext
  show (strOfNums a ++ strOfNums b).data = _
  simp [strOfNums]
theorem digit_str : ∀ i : Nat, i < 10 → (⟨#[48, 49, 50, 51, 52, 53, 54, 55, 56, 57]⟩ : ByteArray).extract i (i + 1) = strOfNums [48 + (i : Int)] := by decide +kernel
theorem toList_nil (s : ByteArray) : s.toList = ([] : List UInt8) ↔ numsOf s = [] := by
  rw [ByteArray.toList_eq]
  unfold numsOf
  simp
theorem nums_drop (s : ByteArray) (p : Nat) : numsOf (s.extract p s.size) = (numsOf s).drop p := by
  unfold numsOf
  rw [← List.map_drop]
  congr 1
  rw [ByteArray.data_extract, Array.toList_extract]
  rw [List.extract_eq_take_drop]
  exact List.take_of_length_le (by rw [List.length_drop, Array.length_toList]; exact Nat.le_refl _)
theorem nums_app (a b : ByteArray) : numsOf (a ++ b) = numsOf a ++ numsOf b := by
  unfold numsOf
  rw [← List.map_append]
  congr 1
theorem bt0 (s : ByteArray) : bt s 0 = (numsOf s).getD 0 0 := bt_nums s 0
theorem bt1 (s : ByteArray) : bt s 1 = (numsOf s).getD 1 0 := bt_nums s 1
theorem byte_at (s : ByteArray) (p : Nat) : 0 ≤ (numsOf s).getD p 0 ∧ (numsOf s).getD p 0 < 256 := by
  rw [List.getD_eq_getElem?_getD]
  cases h : (numsOf s)[p]? with
  | none => simp
  | some v => exact nums_byte s v (List.mem_of_getElem? h)
theorem nums_take (s : ByteArray) (p : Nat) : numsOf (s.extract 0 p) = (numsOf s).take p := by
  unfold numsOf
  rw [← List.map_take]
  congr 1
  rw [ByteArray.data_extract, Array.toList_extract]
  rw [List.extract_eq_take_drop]
  simp
end Go.Proofs.Ytnmmhfpekeeedaa.Num
