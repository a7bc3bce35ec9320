/- What the printed functions that read and write integers as texts come to. -/
import Derived.Test.YtccdaiagameobaaIntEv1
import Derived.Test.YtccdaiagameobaaQ8
import Derived.Test.YtccdaiagameobaaQ11
set_option linter.unusedSimpArgs false
set_option linter.unusedVariables false
namespace Go.Proofs.Ytccdaiagameobaa.IE
open Go.RowKit Go.Proofs.Ytccdaiagameobaa.Q Go.Proofs.YtccdaiagameobaaW.PrintWords Go.Proofs.IM

def mkS (l : List UInt8) : ByteArray := ⟨l.toArray⟩
theorem mkS_size (l : List UInt8) : (mkS l).size = l.length := by simp [mkS, ByteArray.size]
theorem mkS_bt (l : List UInt8) (n : Nat) (i : Int) (h : i = n) : bt (mkS l) i = ((l.getD n 0).toNat : Int) := by
  subst h
  unfold bt
  simp only [Int.toNat_natCast, mkS_size]
  by_cases e : n < l.length
  · rw [dif_pos e, getD_lt e]
    simp [mkS, ByteArray.getElem_eq_getElem_data]
  · rw [dif_neg e, getD_ge (by omega)]
    rfl
theorem mkS_append (a b : List UInt8) : mkS a ++ mkS b = mkS (a ++ b) := by
  apply ByteArray.ext
  simp [mkS, ByteArray.data_append]
theorem mkS_toList (l : List UInt8) : (mkS l).toList = l := by
  rw [Go.ByteArray.toList_eq]; simp [mkS]
theorem mkS_of (s : ByteArray) : s = mkS s.data.toList := by
  apply ByteArray.ext; simp [mkS]
theorem toL {s : ByteArray} (h : s.size ≤ 140737488351232) : ∃ l, s = mkS l ∧ l.length ≤ 1000000000000000 := by
  refine ⟨s.data.toList, mkS_of s, ?_⟩
  have : s.data.toList.length = s.size := by rw [Array.length_toList]; rfl
  omega
theorem mkS_inj {a b : List UInt8} (h : mkS a = mkS b) : a = b := by
  have := congrArg (fun s => s.data.toList) h
  simpa [mkS] using this
theorem mkS_drop (l : List UInt8) (n : Nat) : (mkS l).extract n (mkS l).size = mkS (l.drop n) := by
  apply ByteArray.ext
  simp [mkS, ByteArray.size]
  rw [List.take_of_length_le (by simp)]

def chr (d : Int) : UInt8 := UInt8.ofNat (48 + d).toNat
theorem chr_nat {d : Int} (h0 : 0 ≤ d) (h9 : d ≤ 9) : ((chr d).toNat : Int) = 48 + d := by
  unfold chr
  rw [UInt8.toNat_ofNat']
  omega
def magTxt (m : Nat) : List UInt8 := if m = 0 then [48] else (dig m).reverse.map chr
def txtL (n : Int) : List UInt8 := (if n < 0 then [45] else []) ++ magTxt n.natAbs
def txt (n : Int) : ByteArray := mkS (txtL n)

theorem spec_integer_l0 (ds : List Int) (hd : Dig ds) (hl : ds.length ≤ 1000) (neg : Bool) : ∀ (d n : Nat) (i : Int), i = n → n ≤ ds.length → ds.length - n ≤ d →
    Ev (fun k => spec_integer.l0 k ds neg (mkS ((ds.take n).reverse.map chr)) i) (mkS ((if neg = true then [45] else []) ++ ds.reverse.map chr)) := by
  have fin : ∀ i : Int, i = ds.length → Ev (fun k => spec_integer.l0 k ds neg (mkS (ds.reverse.map chr)) i) (mkS ((if neg = true then [45] else []) ++ ds.reverse.map chr)) := by
    intro i hi
    refine Ev.step (fun k => spec_integer.l0.eq_2 ..) ?_
    have e1 : ¬ i < (ds.length : Int) := by omega
    simp only [if_neg e1]
    cases neg with
    | true =>
      have e2 : 1 + (mkS (ds.reverse.map chr)).size ≤ 9223372036854775807 := by rw [mkS_size]; simp; omega
      simp only [if_true, if_pos e2]
      rw [show (⟨#[45]⟩ : ByteArray) = mkS [45] from rfl, mkS_append]
      exact Ev.now _
    | false =>
      simp only [Bool.false_eq_true, if_false, List.nil_append]
      exact Ev.now _
  intro d
  induction d with
  | zero =>
    intro n i hi hn hd'
    have : n = ds.length := by omega
    subst this
    rw [List.take_length]
    exact fin i hi
  | succ d ih =>
    intro n i hi hn hd'
    by_cases en : n < ds.length
    · have hg := hd.getD n
      refine Ev.step (fun k => spec_integer.l0.eq_2 ..) ?_
      have e1 : i < (ds.length : Int) := by omega
      have e2 : 0 ≤ i := by omega
      rw [rd_nat ds n i hi, w64 (x := 48 + ds.getD n 0) (by omega) (by omega), w64 (x := i + 1) (by omega) (by omega)]
      simp only [if_pos e1, if_pos e2, Option.bind_some]
      have hs : strOfNums [(48 + ds.getD n 0) % 256] = mkS [chr (ds.getD n 0)] := by
        unfold strOfNums mkS chr
        rw [show (48 + ds.getD n 0) % 256 = 48 + ds.getD n 0 by omega]
        rfl
      rw [hs, mkS_append]
      have e3 : (mkS [chr (ds.getD n 0)]).size + (mkS ((ds.take n).reverse.map chr)).size ≤ 9223372036854775807 := by rw [mkS_size, mkS_size]; simp; omega
      simp only [if_pos e3]
      have h := ih (n + 1) (i + 1) (by omega) (by omega) (by omega)
      rw [take_succ_getD en, List.reverse_append, List.map_append] at h
      exact h
    · have : n = ds.length := by omega
      subst this
      rw [List.take_length]
      exact fin i hi
theorem spec_integer_evL (l : List Int) (hD : Dig l) (m : Nat) (hv : val l = m) (neg : Bool) (hl : l.length ≤ 1000000) (hlm : (dig m).length ≤ 1000) : Ev (fun k => spec_integer.f k l neg) (txt (if neg = true then -(m : Int) else m)) := by
  have ht := spec_trimmed_ev l hl
  rw [trim_eq hD, hv, Int.toNat_natCast] at ht
  by_cases em : m = 0
  · subst em
    rw [dig_zero] at ht
    unfold spec_integer.f
    refine Ev.bind ht ?_
    simp
    exact Ev.now _
  · have hl0 : ¬ ((dig m).length : Int) = 0 := by
      intro h
      have : dig m = [] := List.length_eq_zero_iff.1 (by omega)
      exact em (dig_nil.1 this)
    unfold spec_integer.f
    refine Ev.bind ht ?_
    simp only [if_neg hl0]
    have h := spec_integer_l0 (dig m) (dig_Dig m) hlm neg (dig m).length 0 0 rfl (by omega) (by omega)
    rw [List.take_zero] at h
    have he : txt (if neg = true then -(m : Int) else m) = mkS ((if neg = true then [45] else []) ++ (dig m).reverse.map chr) := by
      unfold txt txtL magTxt
      cases neg with
      | true => simp only [if_true]; rw [if_pos (by omega), Int.natAbs_neg, Int.natAbs_natCast, if_neg em]
      | false => simp only [Bool.false_eq_true, if_false]; rw [if_neg (by omega), Int.natAbs_natCast, if_neg em]
    rw [he]
    exact h
theorem spec_integer_ev (m : Nat) (neg : Bool) (hl : (dig m).length ≤ 1000) : Ev (fun k => spec_integer.f k (dig m) neg) (txt (if neg = true then -(m : Int) else m)) :=
  spec_integer_evL (dig m) (dig_Dig m) m (val_dig m) neg (by omega) hl
/-- What fits in 40 digits, as a text. -/
def fit (n : Int) : ByteArray × Bool := if n.natAbs < 10 ^ 40 then (txt n, true) else (⟨#[]⟩, false)
theorem spec_fitting_ev (m : Nat) (neg : Bool) (hl : (dig m).length ≤ 1000) : Ev (fun k => spec_fitting.f k (dig m) neg) (fit (if neg = true then -(m : Int) else m)) := by
  have ht := spec_trimmed_ev (dig m) (by omega)
  rw [trim_dig] at ht
  unfold spec_fitting.f
  refine Ev.bind ht ?_
  have habs : (if neg = true then -(m : Int) else m).natAbs = m := by cases neg <;> simp
  unfold fit
  rw [habs]
  by_cases e : m < 10 ^ 40
  · have e1 : ¬ ((dig m).length : Int) > 40 := by have := (dig_length_le (n := m) (k := 40)).2 e; omega
    simp only [if_neg e1, if_pos e]
    exact Ev.bind (spec_integer_ev m neg hl) (Ev.now _)
  · have e1 : ((dig m).length : Int) > 40 := by have := mt (dig_length_le (n := m) (k := 40)).1 e; omega
    simp only [if_pos e1, if_neg e]
    exact Ev.now _
end Go.Proofs.Ytccdaiagameobaa.IE
