/- Texts as lists of bytes. -/
import Derived.RowKit
set_option linter.unusedSimpArgs false
set_option linter.unusedVariables false
namespace Go.Proofs.TX

theorem toList_loop : ∀ (n : Nat) (b : ByteArray) (i : Nat) (r : List UInt8), b.size - i = n → ByteArray.toList.loop b i r = r.reverse ++ b.data.toList.drop i := by
  intro n
  induction n with
  | zero =>
    intro b i r h
    unfold ByteArray.toList.loop
    rw [if_neg (by omega), List.drop_of_length_le (by rw [Array.length_toList]; show b.size ≤ i; omega), List.append_nil]
  | succ n ih =>
    intro b i r h
    unfold ByteArray.toList.loop
    have hi : i < b.data.toList.length := by rw [Array.length_toList]; show i < b.size; omega
    have hi2 : i < b.data.size := by show i < b.size; omega
    rw [if_pos (by omega), ih b (i + 1) _ (by omega), List.drop_eq_getElem_cons hi, List.reverse_cons, List.append_assoc]
    congr 1
    show b.get! i :: _ = _ :: _
    congr 1
    show b.data[i]! = _
    rw [getElem!_pos b.data i hi2, Array.getElem_toList]
/-- A text's list of bytes. -/
theorem toList_data (s : ByteArray) : s.toList = s.data.toList := by
  unfold ByteArray.toList
  rw [toList_loop _ s 0 [] rfl]
  rfl
theorem size_toList (s : ByteArray) : s.size = s.data.toList.length := by rw [Array.length_toList]; rfl
theorem empty_iff (s : ByteArray) : s.toList = [] ↔ s.size = 0 := by
  rw [toList_data, size_toList, List.length_eq_zero_iff]
theorem toList_inj {a b : ByteArray} : a.toList = b.toList ↔ a = b := by
  rw [toList_data, toList_data]
  constructor
  · intro h
    exact ByteArray.ext (Array.ext' h)
  · rintro rfl; rfl
end Go.Proofs.TX
