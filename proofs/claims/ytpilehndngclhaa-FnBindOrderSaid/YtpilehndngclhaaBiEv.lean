/- BindArgs, the program's and the reference's: what they answer. -/
import Derived.Test.YtpilehndngclhaaBiName
import Derived.Test.YtpilehndngclhaaBiMath
import Derived.Test.YtpilehndngclhaaLsBase
import Derived.Test.YtpilehndngclhaaQ4
import Derived.Test.YtpilehndngclhaaQ6
import Derived.Test.YtpilehndngclhaaQ7
set_option linter.unusedSimpArgs false
set_option linter.unusedVariables false
namespace Go.Proofs.Ytpilehndngclhaa.BE
open Go.RowKit Go.Proofs.Ytpilehndngclhaa.Q Go.Proofs.YtpilehndngclhaaW.PrintWords Go.Proofs.Ytpilehndngclhaa.MO Go.Proofs.BI Go.Proofs.GR

theorem w64 {x : Int} (h0 : -1000000000000000000 ≤ x) (h1 : x ≤ 1000000000000000000) : wrap64 x = x := by unfold wrap64; omega
theorem rdi (l : List Int) (i : Nat) : rd l (i : Int) = l.getD i 0 := by unfold rd; simp
theorem rdb (l : List Bool) (i : Nat) : rdOf false l (i : Int) = l.getD i false := by unfold rdOf; simp
theorem posI_lt (P : List ByteArray) (s : ByteArray) : posI P s = -1 ∨ (0 ≤ posI P s ∧ posI P s < (P.length : Int)) := by
  have := posL_lt P s 0
  unfold posI
  omega
/-- What is left to do when the named ones have been put. -/
def fin (n : Nat) (D : List Int) (s : List Int × List Bool × Int) : List Int × Int := if s.2.2 = 0 then defs n D s.2.1 0 s.1 else ([], s.2.2)
def pairs (P : List ByteArray) (V : List Int) (N : List ByteArray) : List (Int × Int) := (N.map (posI P)).zip V
/-- What is bound, and the code. -/
def bindR (P : List ByteArray) (D A : List Int) (N : List ByteArray) : List Int × Int :=
  if A.length - N.length > P.length then ([], 1) else
  fin P.length D (run (pairs P (A.drop (A.length - N.length)) N) (A.take (A.length - N.length) ++ List.replicate (P.length - (A.length - N.length)) 0) (List.replicate (A.length - N.length) true ++ List.replicate (P.length - (A.length - N.length)) false))
def okB (P : List ByteArray) (D A : List Int) (N : List ByteArray) : Bool := okNames P && (decide (P.length ≤ 6) && (decide (D.length ≤ P.length) && (decide (A.length ≤ 12) && (difB N && decide (N.length ≤ A.length)))))
def bindA (P : List ByteArray) (D A : List Int) (N : List ByteArray) : List Int × Int := if okB P D A N = true then bindR P D A N else ([], 5)

theorem pairs_drop (P : List ByteArray) (A : List Int) (N : List ByteArray) (pl : Nat) (hpl : pl + N.length = A.length) (i : Nat) (hi : i < N.length) : (pairs P (A.drop pl) N).drop i = (posI P (N.getD i ByteArray.empty), A.getD (pl + i) 0) :: (pairs P (A.drop pl) N).drop (i + 1) := by
  have hl : (pairs P (A.drop pl) N).length = N.length := by unfold pairs; rw [List.length_zip, List.length_map, List.length_drop]; omega
  rw [List.drop_eq_getElem_cons (by omega)]
  congr 1
  unfold pairs
  rw [List.getElem_zip, List.getElem_map, List.getElem_drop, getD_get _ _ hi, getD_get _ _ (show pl + i < A.length by omega)]
theorem fill_g (pl n i : Nat) (hi : i < pl) (hn : pl ≤ n) : (List.replicate i true ++ List.replicate (n - i) false).set i true = List.replicate (i + 1) true ++ List.replicate (n - (i + 1)) false := by
  have h := fill_set (List.replicate pl true) false n i (by omega) (by simpa using hi) true
  simp only [List.take_replicate, Nat.min_eq_left (Nat.le_of_lt hi), Nat.min_eq_left (show i + 1 ≤ pl from hi)] at h
  have e : (List.replicate pl true).getD i true = true := by rw [List.getD_eq_getElem?_getD, List.getElem?_replicate, if_pos hi]; rfl
  rwa [e] at h
section
variable (P : List ByteArray) (D A : List Int) (N : List ByteArray) (hP : P.length ≤ 6) (hD : D.length ≤ P.length) (hA : A.length ≤ 12) (hN : N.length ≤ A.length)
include hP hD
theorem impl_defs_l : ∀ (d i : Nat) (o : List Int) (g : List Bool), P.length - i = d → i ≤ P.length → o.length = P.length → g.length = P.length → Ev (fun k => impl_bindValues_int.l2 k P D o g (P.length : Int) (i : Int)) (defs P.length D (g.drop i) i o) := by
  intro d
  induction d with
  | zero =>
    intro i o g hd hi ho hg
    obtain rfl : i = P.length := by omega
    refine Ev.step (fun k => impl_bindValues_int.l2.eq_2 ..) ?_
    simp only [Int.lt_irrefl, if_false]
    rw [List.drop_of_length_le (by omega)]
    unfold defs
    exact Ev.now _
  | succ d ih =>
    intro i o g hd hi ho hg
    have hlt : i < P.length := by omega
    refine Ev.step (fun k => impl_bindValues_int.l2.eq_2 ..) ?_
    simp only [if_pos (show (i : Int) < (P.length : Int) by omega), if_pos (show (0 : Int) ≤ i by omega), if_pos (show (i : Int) < (g.length : Int) by omega), rdb]
    rw [drop_getD g false (show i < g.length by omega)]
    unfold defs
    rw [w64 (x := (i : Int) + 1) (by omega) (by omega), w64 (x := (P.length : Int) - (D.length : Int)) (by omega) (by omega), w64 (x := (i : Int) - ((P.length : Int) - (D.length : Int))) (by omega) (by omega)]
    by_cases hb : g.getD i false = true
    · simp only [if_pos hb]
      exact ih (i + 1) o g (by omega) (by omega) ho hg
    · simp only [if_neg hb]
      by_cases hc : (i : Int) < (P.length : Int) - (D.length : Int)
      · simp only [if_pos hc, if_pos (show (i : Int) - ((P.length : Int) - (D.length : Int)) < 0 by omega)]
        exact Ev.now _
      · simp only [if_neg hc, if_neg (show ¬ (i : Int) - ((P.length : Int) - (D.length : Int)) < 0 by omega), if_pos (show 0 ≤ (i : Int) - ((P.length : Int) - (D.length : Int)) by omega), if_pos (show (i : Int) - ((P.length : Int) - (D.length : Int)) < (D.length : Int) by omega), if_pos (show (i : Int) < (o.length : Int) by omega), Int.toNat_natCast]
        have := ih (i + 1) (o.set i (rd D ((i : Int) - ((P.length : Int) - (D.length : Int))))) g (by omega) (by omega) (by rw [List.length_set]; exact ho) hg
        exact this
theorem spec_defs_l : ∀ (d i : Nat) (o : List Int) (g : List Bool), P.length - i = d → i ≤ P.length → o.length = P.length → g.length = P.length → Ev (fun k => spec_bindCode.l2 k P D o g ((P.length : Int) - (D.length : Int)) (i : Int)) (defs P.length D (g.drop i) i o) := by
  intro d
  induction d with
  | zero =>
    intro i o g hd hi ho hg
    obtain rfl : i = P.length := by omega
    refine Ev.step (fun k => spec_bindCode.l2.eq_2 ..) ?_
    simp only [Int.lt_irrefl, if_false]
    rw [List.drop_of_length_le (by omega)]
    unfold defs
    exact Ev.now _
  | succ d ih =>
    intro i o g hd hi ho hg
    have hlt : i < P.length := by omega
    refine Ev.step (fun k => spec_bindCode.l2.eq_2 ..) ?_
    simp only [if_pos (show (i : Int) < (P.length : Int) by omega), if_pos (show (0 : Int) ≤ i by omega), if_pos (show (i : Int) < (g.length : Int) by omega), rdb]
    rw [drop_getD g false (show i < g.length by omega)]
    unfold defs
    by_cases hb : g.getD i false = true
    · simp only [if_pos hb]
      refine Ev.step (fun k => spec_bindCode.j3.eq_2 ..) ?_
      simp only [Bool.false_eq_true, if_false, if_pos (show (0 : Int) ≤ i by omega), if_pos (show (i : Int) < (g.length : Int) by omega), rdb, if_pos hb]
      rw [w64 (x := (i : Int) + 1) (by omega) (by omega)]
      exact ih (i + 1) o g (by omega) (by omega) ho hg
    · simp only [if_neg hb]
      refine Ev.step (fun k => spec_bindCode.j3.eq_2 ..) ?_
      by_cases hc : (i : Int) < (P.length : Int) - (D.length : Int)
      · simp only [if_pos hc, decide_eq_true hc, if_true]
        exact Ev.now _
      · simp only [if_neg hc, decide_eq_false hc, Bool.false_eq_true, if_false, if_pos (show (0 : Int) ≤ i by omega), if_pos (show (i : Int) < (g.length : Int) by omega), rdb, if_neg hb]
        rw [w64 (x := (i : Int) + 1) (by omega) (by omega), w64 (x := (i : Int) - ((P.length : Int) - (D.length : Int))) (by omega) (by omega)]
        simp only [if_pos (show 0 ≤ (i : Int) - ((P.length : Int) - (D.length : Int)) by omega), if_pos (show (i : Int) - ((P.length : Int) - (D.length : Int)) < (D.length : Int) by omega), if_pos (show (i : Int) < (o.length : Int) by omega), Int.toNat_natCast]
        have := ih (i + 1) (o.set i (rd D ((i : Int) - ((P.length : Int) - (D.length : Int))))) g (by omega) (by omega) (by rw [List.length_set]; exact ho) hg
        exact this
include hA hN
theorem impl_names_l (pl : Nat) (hpl : pl + N.length = A.length) : ∀ (d i : Nat) (o : List Int) (g : List Bool), N.length - i = d → i ≤ N.length → o.length = P.length → g.length = P.length →
    Ev (fun k => impl_bindValues_int.l1 k P D A o g (pl : Int) N (N.length : Int) (i : Int)) (fin P.length D (run ((pairs P (A.drop pl) N).drop i) o g)) := by
  have hl : (pairs P (A.drop pl) N).length = N.length := by unfold pairs; rw [List.length_zip, List.length_map, List.length_drop]; omega
  intro d
  induction d with
  | zero =>
    intro i o g hd hi ho hg
    obtain rfl : i = N.length := by omega
    refine Ev.step (fun k => impl_bindValues_int.l1.eq_2 ..) ?_
    simp only [Int.lt_irrefl, if_false]
    rw [List.drop_of_length_le (by omega)]
    unfold run fin
    simp only [if_true]
    have := impl_defs_l P D hP hD P.length 0 o g rfl (Nat.zero_le _) ho hg
    rw [List.drop_zero] at this
    exact this
  | succ d ih =>
    intro i o g hd hi ho hg
    have hlt : i < N.length := by omega
    refine Ev.step (fun k => impl_bindValues_int.l1.eq_2 ..) ?_
    simp only [if_pos (show (i : Int) < (N.length : Int) by omega), if_pos (show (0 : Int) ≤ i by omega), rdOf_nat]
    refine Ev.bind (Index_ev P _ (by unfold maxLen; omega)) ?_
    rw [pairs_drop P A N pl hpl i hlt]
    unfold run
    rcases posI_lt P (N.getD i ByteArray.empty) with hp | ⟨hp0, hp1⟩
    · rw [hp]
      simp only [if_pos (show (-1 : Int) < 0 by omega)]
      unfold fin
      simp only [if_neg (show ¬ (2 : Int) = 0 by omega)]
      exact Ev.now _
    · generalize posI P (N.getD i ByteArray.empty) = p at *
      obtain ⟨q, rfl⟩ := Int.eq_ofNat_of_zero_le hp0
      rw [w64 (x := (pl : Int) + (i : Int)) (by omega) (by omega), w64 (x := (i : Int) + 1) (by omega) (by omega)]
      simp only [if_neg (show ¬ (q : Int) < 0 by omega), if_pos hp0, if_pos (show (q : Int) < (g.length : Int) by omega), rdb, Int.toNat_natCast]
      by_cases hb : g.getD q false = true
      · simp only [if_pos hb]
        unfold fin
        simp only [if_neg (show ¬ (3 : Int) = 0 by omega)]
        exact Ev.now _
      · simp only [if_neg hb, if_pos (show (0 : Int) ≤ (pl : Int) + (i : Int) by omega), if_pos (show (pl : Int) + (i : Int) < (A.length : Int) by omega), if_pos (show (q : Int) < (o.length : Int) by omega)]
        rw [show (pl : Int) + (i : Int) = ((pl + i : Nat) : Int) by omega, rdi]
        exact ih (i + 1) _ _ (by omega) (by omega) (by rw [List.length_set]; exact ho) (by rw [List.length_set]; exact hg)
theorem spec_names_l (pl : Nat) (hpl : pl + N.length = A.length) : ∀ (d i : Nat) (o : List Int) (g : List Bool), N.length - i = d → i ≤ N.length → o.length = P.length → g.length = P.length →
    Ev (fun k => spec_bindCode.l1 k P D A N o g (pl : Int) (i : Int)) (fin P.length D (run ((pairs P (A.drop pl) N).drop i) o g)) := by
  have hl : (pairs P (A.drop pl) N).length = N.length := by unfold pairs; rw [List.length_zip, List.length_map, List.length_drop]; omega
  intro d
  induction d with
  | zero =>
    intro i o g hd hi ho hg
    obtain rfl : i = N.length := by omega
    refine Ev.step (fun k => spec_bindCode.l1.eq_2 ..) ?_
    simp only [Int.lt_irrefl, if_false]
    rw [List.drop_of_length_le (by omega)]
    unfold run fin
    simp only [if_true]
    rw [w64 (x := (P.length : Int) - (D.length : Int)) (by omega) (by omega)]
    have := spec_defs_l P D hP hD P.length 0 o g rfl (Nat.zero_le _) ho hg
    rw [List.drop_zero] at this
    exact this
  | succ d ih =>
    intro i o g hd hi ho hg
    have hlt : i < N.length := by omega
    refine Ev.step (fun k => spec_bindCode.l1.eq_2 ..) ?_
    simp only [if_pos (show (i : Int) < (N.length : Int) by omega), if_pos (show (0 : Int) ≤ i by omega), rdOf_nat]
    refine Ev.bind (nameAt_ev P _ (by unfold maxLen; omega)) ?_
    rw [pairs_drop P A N pl hpl i hlt]
    unfold run
    rcases posI_lt P (N.getD i ByteArray.empty) with hp | ⟨hp0, hp1⟩
    · rw [hp]
      simp only [if_pos (show (-1 : Int) < 0 by omega)]
      unfold fin
      simp only [if_neg (show ¬ (2 : Int) = 0 by omega)]
      exact Ev.now _
    · generalize posI P (N.getD i ByteArray.empty) = p at *
      obtain ⟨q, rfl⟩ := Int.eq_ofNat_of_zero_le hp0
      rw [w64 (x := (pl : Int) + (i : Int)) (by omega) (by omega), w64 (x := (i : Int) + 1) (by omega) (by omega)]
      simp only [if_neg (show ¬ (q : Int) < 0 by omega), if_pos hp0, if_pos (show (q : Int) < (g.length : Int) by omega), rdb, Int.toNat_natCast]
      by_cases hb : g.getD q false = true
      · simp only [if_pos hb]
        unfold fin
        simp only [if_neg (show ¬ (3 : Int) = 0 by omega)]
        exact Ev.now _
      · simp only [if_neg hb, if_pos (show (0 : Int) ≤ (pl : Int) + (i : Int) by omega), if_pos (show (pl : Int) + (i : Int) < (A.length : Int) by omega), if_pos (show (q : Int) < (o.length : Int) by omega)]
        rw [show (pl : Int) + (i : Int) = ((pl + i : Nat) : Int) by omega, rdi]
        exact ih (i + 1) _ _ (by omega) (by omega) (by rw [List.length_set]; exact ho) (by rw [List.length_set]; exact hg)
theorem impl_fill_l (pl : Nat) (hpl : pl + N.length = A.length) (hle : pl ≤ P.length) : ∀ (d i : Nat), pl - i = d → i ≤ pl →
    Ev (fun k => impl_bindValues_int.l0 k P D A N (A.take i ++ List.replicate (P.length - i) 0) (List.replicate i true ++ List.replicate (P.length - i) false) (pl : Int) (pl : Int) (i : Int)) (fin P.length D (run (pairs P (A.drop pl) N) (A.take pl ++ List.replicate (P.length - pl) 0) (List.replicate pl true ++ List.replicate (P.length - pl) false))) := by
  intro d
  induction d with
  | zero =>
    intro i hd hi
    obtain rfl : i = pl := by omega
    refine Ev.step (fun k => impl_bindValues_int.l0.eq_2 ..) ?_
    simp only [Int.lt_irrefl, if_false]
    have := impl_names_l P D A N hP hD hA hN i hpl N.length 0 (A.take i ++ List.replicate (P.length - i) 0) (List.replicate i true ++ List.replicate (P.length - i) false) rfl (Nat.zero_le _) (by simp; omega) (by simp; omega)
    rw [List.drop_zero] at this
    exact this
  | succ d ih =>
    intro i hd hi
    refine Ev.step (fun k => impl_bindValues_int.l0.eq_2 ..) ?_
    simp only [if_pos (show (i : Int) < (pl : Int) by omega), if_pos (show (0 : Int) ≤ i by omega), if_pos (show (i : Int) < (A.length : Int) by omega), Int.toNat_natCast, rdi]
    have g1 : (i : Int) < ((A.take i ++ List.replicate (P.length - i) (0 : Int)).length : Int) := by rw [List.length_append, List.length_take, List.length_replicate]; omega
    have g2 : (i : Int) < ((List.replicate i true ++ List.replicate (P.length - i) false).length : Int) := by rw [List.length_append, List.length_replicate, List.length_replicate]; omega
    simp only [if_pos g1, if_pos g2]
    rw [w64 (x := (i : Int) + 1) (by omega) (by omega), fill_set A 0 P.length i (by omega) (by omega) 0, fill_g pl P.length i (by omega) hle]
    exact ih (i + 1) (by omega) (by omega)
theorem spec_fill_l (pl : Nat) (hpl : pl + N.length = A.length) (hle : pl ≤ P.length) : ∀ (d i : Nat), pl - i = d → i ≤ pl →
    Ev (fun k => spec_bindCode.l0 k P D A N (A.take i ++ List.replicate (P.length - i) 0) (List.replicate i true ++ List.replicate (P.length - i) false) (pl : Int) (i : Int)) (fin P.length D (run (pairs P (A.drop pl) N) (A.take pl ++ List.replicate (P.length - pl) 0) (List.replicate pl true ++ List.replicate (P.length - pl) false))) := by
  intro d
  induction d with
  | zero =>
    intro i hd hi
    obtain rfl : i = pl := by omega
    refine Ev.step (fun k => spec_bindCode.l0.eq_2 ..) ?_
    simp only [Int.lt_irrefl, if_false]
    have := spec_names_l P D A N hP hD hA hN i hpl N.length 0 (A.take i ++ List.replicate (P.length - i) 0) (List.replicate i true ++ List.replicate (P.length - i) false) rfl (Nat.zero_le _) (by simp; omega) (by simp; omega)
    rw [List.drop_zero] at this
    exact this
  | succ d ih =>
    intro i hd hi
    refine Ev.step (fun k => spec_bindCode.l0.eq_2 ..) ?_
    simp only [if_pos (show (i : Int) < (pl : Int) by omega), if_pos (show (0 : Int) ≤ i by omega), if_pos (show (i : Int) < (A.length : Int) by omega), Int.toNat_natCast, rdi]
    have g1 : (i : Int) < ((A.take i ++ List.replicate (P.length - i) (0 : Int)).length : Int) := by rw [List.length_append, List.length_take, List.length_replicate]; omega
    have g2 : (i : Int) < ((List.replicate i true ++ List.replicate (P.length - i) false).length : Int) := by rw [List.length_append, List.length_replicate, List.length_replicate]; omega
    simp only [if_pos g1, if_pos g2]
    rw [w64 (x := (i : Int) + 1) (by omega) (by omega), fill_set A 0 P.length i (by omega) (by omega) 0, fill_g pl P.length i (by omega) hle]
    exact ih (i + 1) (by omega) (by omega)
theorem impl_R_ev : Ev (fun k => impl_bindValues_int.f k P D A N) (bindR P D A N) := by
  unfold impl_bindValues_int.f bindR
  simp only [if_pos (show 0 ≤ (P.length : Int) by omega), Int.toNat_natCast, if_pos (show P.length ≤ 35184372088832 by omega), if_pos (show P.length ≤ 281474976710656 by omega)]
  rw [w64 (x := (A.length : Int) - (N.length : Int)) (by omega) (by omega)]
  by_cases h : A.length - N.length > P.length
  · rw [if_pos h]
    simp only [if_pos (show (A.length : Int) - (N.length : Int) > (P.length : Int) by omega)]
    exact Ev.now _
  · rw [if_neg h]
    simp only [if_neg (show ¬ (A.length : Int) - (N.length : Int) > (P.length : Int) by omega)]
    have := impl_fill_l P D A N hP hD hA hN (A.length - N.length) (by omega) (by omega) (A.length - N.length) 0 rfl (Nat.zero_le _)
    simp only [List.take_zero, List.nil_append, List.replicate_zero, Nat.sub_zero] at this
    rw [show (((A.length - N.length : Nat)) : Int) = (A.length : Int) - (N.length : Int) by omega] at this
    exact this
theorem spec_R_ev : Ev (fun k => spec_bindCode.f k P D A N) (bindR P D A N) := by
  unfold spec_bindCode.f bindR
  simp only [if_pos (show 0 ≤ (P.length : Int) by omega), Int.toNat_natCast, if_pos (show P.length ≤ 35184372088832 by omega), if_pos (show P.length ≤ 281474976710656 by omega)]
  rw [w64 (x := (A.length : Int) - (N.length : Int)) (by omega) (by omega)]
  by_cases h : A.length - N.length > P.length
  · rw [if_pos h]
    simp only [if_pos (show (A.length : Int) - (N.length : Int) > (P.length : Int) by omega)]
    exact Ev.now _
  · rw [if_neg h]
    simp only [if_neg (show ¬ (A.length : Int) - (N.length : Int) > (P.length : Int) by omega)]
    have := spec_fill_l P D A N hP hD hA hN (A.length - N.length) (by omega) (by omega) (A.length - N.length) 0 rfl (Nat.zero_le _)
    simp only [List.take_zero, List.nil_append, List.replicate_zero, Nat.sub_zero] at this
    rw [show (((A.length - N.length : Nat)) : Int) = (A.length : Int) - (N.length : Int) by omega] at this
    exact this
end
theorem impl_Bind_ev (P : List ByteArray) (D A : List Int) (N : List ByteArray) (hP : P.length ≤ maxLen) (hN : N.length ≤ maxLen) (hs : ∀ x ∈ P, x.size ≤ maxLen) : Ev (fun k => impl_BindArgs.f k P D A N) (bindA P D A N) := by
  unfold impl_BindArgs.f bindA okB
  by_cases h6 : P.length ≤ 6
  · rw [decide_eq_true h6]
    simp only [if_neg (show ¬ (P.length : Int) > 6 by omega)]
    refine Ev.bind (allNames_ev P hP hs) ?_
    cases okNames P with
    | false => simp only [Bool.false_eq_true, if_false, Bool.false_and]; exact Ev.now _
    | true =>
      simp only [if_true, Bool.true_and]
      by_cases hd : D.length ≤ P.length
      · rw [decide_eq_true hd]
        simp only [if_neg (show ¬ (D.length : Int) > (P.length : Int) by omega), Bool.true_and]
        by_cases ha : A.length ≤ 12
        · rw [decide_eq_true ha]
          simp only [if_neg (show ¬ (A.length : Int) > 12 by omega), Bool.true_and]
          by_cases hn : N.length ≤ A.length
          · rw [decide_eq_true hn]
            simp only [if_neg (show ¬ (N.length : Int) > (A.length : Int) by omega), Bool.and_true]
            refine Ev.bind (differ_ev N hN) ?_
            cases difB N with
            | false => simp only [Bool.false_eq_true, if_false]; exact Ev.now _
            | true =>
              simp only [if_true]
              exact Ev.bind (impl_R_ev P D A N h6 hd ha hn) (Ev.now _)
          · rw [decide_eq_false hn]
            simp only [if_pos (show (N.length : Int) > (A.length : Int) by omega), Bool.and_false, Bool.false_eq_true, if_false]
            exact Ev.now _
        · rw [decide_eq_false ha]
          simp only [if_pos (show (A.length : Int) > 12 by omega), Bool.false_and, Bool.false_eq_true, if_false]
          exact Ev.now _
      · rw [decide_eq_false hd]
        simp only [if_pos (show (D.length : Int) > (P.length : Int) by omega), Bool.false_and, Bool.false_eq_true, if_false]
        exact Ev.now _
  · rw [decide_eq_false h6]
    simp only [if_pos (show (P.length : Int) > 6 by omega), Bool.false_and, Bool.and_false, Bool.false_eq_true, if_false]
    exact Ev.now _
theorem spec_valid_ev (P : List ByteArray) (D A : List Int) (N : List ByteArray) (hP : P.length ≤ maxLen) (hN : N.length ≤ maxLen) (hs : ∀ x ∈ P, x.size ≤ maxLen) : Ev (fun k => spec_validBind.f k P D A N) (okB P D A N) := by
  unfold spec_validBind.f okB
  refine Ev.bind (onceEach_ev P hP hs) ?_
  cases okNames P with
  | false => simp only [Bool.false_eq_true, if_false, Bool.false_and]; exact Ev.now _
  | true =>
    simp only [if_true, Bool.true_and]
    by_cases h6 : P.length ≤ 6
    · rw [decide_eq_true h6]
      simp only [if_pos (show (P.length : Int) ≤ 6 by omega), Bool.true_and]
      by_cases hd : D.length ≤ P.length
      · rw [decide_eq_true hd]
        simp only [if_pos (show (D.length : Int) ≤ (P.length : Int) by omega), Bool.true_and]
        by_cases ha : A.length ≤ 12
        · rw [decide_eq_true ha]
          simp only [if_pos (show (A.length : Int) ≤ 12 by omega), Bool.true_and]
          refine Ev.bind (noneTwice_ev N hN) ?_
          cases difB N with
          | false => simp only [Bool.false_eq_true, if_false, Bool.false_and]; exact Ev.now _
          | true =>
            simp only [if_true, Bool.true_and]
            rw [show decide ((N.length : Int) ≤ (A.length : Int)) = decide (N.length ≤ A.length) from decide_eq_decide.2 (by omega)]
            exact Ev.now _
        · rw [decide_eq_false ha]
          simp only [if_neg (show ¬ (A.length : Int) ≤ 12 by omega), Bool.false_and]
          exact Ev.now _
      · rw [decide_eq_false hd]
        simp only [if_neg (show ¬ (D.length : Int) ≤ (P.length : Int) by omega), Bool.false_and]
        exact Ev.now _
    · rw [decide_eq_false h6]
      simp only [if_neg (show ¬ (P.length : Int) ≤ 6 by omega), Bool.false_and]
      exact Ev.now _
theorem okB_iff {P : List ByteArray} {D A : List Int} {N : List ByteArray} : okB P D A N = true ↔ okNames P = true ∧ P.length ≤ 6 ∧ D.length ≤ P.length ∧ A.length ≤ 12 ∧ difB N = true ∧ N.length ≤ A.length := by
  unfold okB
  simp only [Bool.and_eq_true, decide_eq_true_eq]
theorem spec_Bind_ev (P : List ByteArray) (D A : List Int) (N : List ByteArray) (hP : P.length ≤ maxLen) (hN : N.length ≤ maxLen) (hs : ∀ x ∈ P, x.size ≤ maxLen) : Ev (fun k => spec_BindArgs.f k P D A N) (bindA P D A N) := by
  unfold spec_BindArgs.f bindA
  refine Ev.bind (spec_valid_ev P D A N hP hN hs) ?_
  cases h : okB P D A N with
  | false => simp only [Bool.false_eq_true, if_false]; exact Ev.now _
  | true =>
    simp only [if_true]
    obtain ⟨-, h6, hd, ha, -, hn⟩ := okB_iff.1 h
    exact Ev.bind (spec_R_ev P D A N h6 hd ha hn) (Ev.now _)
end Go.Proofs.Ytpilehndngclhaa.BE
