/- Dropping a root: what is freed, for the program and the reference. -/
import Derived.Test.YtljieofkagmdaaaGrFree2
import Derived.Test.YtljieofkagmdaaaGrEv3
import Derived.Test.YtljieofkagmdaaaGrEv5
import Derived.Test.YtljieofkagmdaaaQ1
import Derived.Test.YtljieofkagmdaaaQ17
set_option linter.unusedSimpArgs false
set_option linter.unusedVariables false
namespace Go.Proofs.Ytljieofkagmdaaa.GE
open Go.RowKit Go.Proofs.Ytljieofkagmdaaa.Q Go.Proofs.YtljieofkagmdaaaW.PrintWords Go.Proofs.GR

/-- The roots without one. -/
def without (r : List Int) (n : Nat) : List Int := r.take n ++ r.drop (n + 1)
theorem count_without {r : List Int} {n : Nat} (h : n < r.length) (x : Int) : r.count x = (without r n).count x + (if r.getD n 0 = x then 1 else 0) := by
  have e : r = r.take n ++ r.getD n 0 :: r.drop (n + 1) := by rw [← drop_cons h, List.take_append_drop]
  conv => lhs; rw [e]
  unfold without
  rw [List.count_append, List.count_cons, List.count_append]
  by_cases c : r.getD n 0 = x
  · rw [if_pos c, if_pos (by simpa using c)]; omega
  · rw [if_neg c, if_neg (by simpa using c)]; omega
theorem without_sub {r : List Int} {n : Nat} {x : Int} (h : x ∈ without r n) : x ∈ r := by
  rcases List.mem_append.1 h with q | q
  · exact List.mem_of_mem_take q
  · exact List.mem_of_mem_drop q
theorem without_len (r : List Int) (n : Nat) : (without r n).length ≤ r.length := by
  unfold without
  rw [List.length_append, List.length_take, List.length_drop]
  omega
theorem refs_count (g : List (List Int)) (r : List Int) (x : Int) : (refs g r).count x = r.count x + g.flatten.count x := by simp [refs, List.count_append]
/-- A valid drop. -/
def okD (g : List (List Int)) (r : List Int) (at_ : Int) : Prop := (okG g && okR g r) = true ∧ 0 ≤ at_ ∧ at_ < (r.length : Int)
theorem DropRoot_ev (g : List (List Int)) (hz : Sz g) (r : List Int) (hr : r.length ≤ 100000) (at_ : Int) :
    ∃ O, Ev (fun k => impl_DropRoot.f k g r at_) O ∧ Ev (fun k => spec_DropRoot.f k g r at_) O ∧ (¬ okD g r at_ → O = []) ∧ (okD g r at_ → Chain g (without r at_.toNat) O ∧ (O = [] ∨ ∃ s, O = r.getD at_.toNat 0 :: s)) := by
  have hg1 := hz.len
  by_cases hok : okD g r at_
  · obtain ⟨ho, a0, a1⟩ := hok
    obtain ⟨k1, k2, k3, k4⟩ := okGR ho
    have hg := Gr.of k1
    obtain ⟨m, rfl⟩ := Int.eq_ofNat_of_zero_le a0
    have hm : m < r.length := by omega
    have hn := k2 _ (getD_mem (d := (0 : Int)) hm)
    have hlen := counts_length g r
    have hcv : ∀ i : Nat, (counts g r).getD i 0 = ((r.count (i : Int) + g.flatten.count (i : Int) : Nat) : Int) := fun i => by rw [counts_getD hg k2, refs_count]
    have hfl : ∀ x, g.flatten.count x ≤ 100000 := fun x => by rw [← restc_nil]; exact restc_le hg [] x
    have hcn := hcv (r.getD m 0).toNat
    rw [show (((r.getD m 0).toNat : Nat) : Int) = r.getD m 0 by omega] at hcn
    have hcw := count_without hm (r.getD m 0)
    rw [if_pos rfl] at hcw
    have hcl := List.count_le_length (a := r.getD m 0) (l := r)
    have hw : wrap64 (rd (counts g r) (r.getD m 0) - 1) = (counts g r).getD (r.getD m 0).toNat 0 - 1 := by
      unfold rd
      have := hfl (r.getD m 0)
      exact w64 (by omega) (by omega)
    have hrd : rd r (m : Int) = r.getD m 0 := rd_nat r m m rfl
    have hdom : spec_inRange.f (m : Int) 0 (wrap64 ((r.length : Int) - 1)) = some true := by
      rw [w64 (by omega) (by omega), inRange_eq, decide_eq_true ⟨by omega, by omega⟩]
    -- the counts behind the drop
    have hY : ∀ i : Nat, i < g.length → ((counts g r).set (r.getD m 0).toNat ((counts g r).getD (r.getD m 0).toNat 0 - 1)).getD i 0 = (((without r m).count (i : Int) + restc g [] (i : Int) : Nat) : Int) := by
      intro i hi
      rw [getD_set (by omega), restc_nil]
      have := count_without hm (i : Int)
      by_cases c : (r.getD m 0).toNat = i
      · rw [if_pos c, hcn, ← c, show (((r.getD m 0).toNat : Nat) : Int) = r.getD m 0 by omega]
        omega
      · rw [if_neg c, hcv]
        rw [if_neg (by omega)] at this
        rw [this]; rfl
    have hvalid : Ev (fun k => spec_validGraph.f k g) true := by have := spec_validGraph_ev g hz; rwa [k1] at this
    have hroots : Ev (fun k => spec_validRoots.f k r (g.length : Int)) true := by
      have := spec_validRoots_ev r g.length hr hg1
      rwa [show (idx g.length r && decide (r.length ≤ 12)) = true by rw [Bool.and_eq_true]; exact ⟨idx_iff.2 k2, by simpa using k3⟩] at this
    have hgraph : Ev (fun k => impl_GraphOk.f k g r) true := by have := impl_GraphOk_ev g hz r hr; rwa [ho] at this
    have c1 := impl_counts_ev g hg r k2 hr
    have c2 := spec_countsOf_ev g hg r k2 hr
    by_cases hpos : (counts g r).getD (r.getD m 0).toNat 0 - 1 > 0
    · refine ⟨[], ?_, ?_, fun h => absurd ⟨ho, a0, a1⟩ h, fun _ => ⟨.nil, .inl rfl⟩⟩
      · unfold impl_DropRoot.f
        refine Ev.bind hgraph ?_
        simp only [if_true, if_neg (show ¬ (m : Int) < 0 by omega), decide_eq_false (show ¬ (m : Int) ≥ (r.length : Int) by omega)]
        refine Ev.step (fun n => impl_DropRoot.j0.eq_2 ..) ?_
        simp only [Bool.false_eq_true, if_false]
        refine Ev.bind c1 ?_
        simp only [if_pos a0, if_pos a1, hrd, if_pos hn.1, if_pos (show r.getD m 0 < ((counts g r).length : Int) by omega), hw, Option.bind_some]
        have : rd ((counts g r).set (r.getD m 0).toNat ((counts g r).getD (r.getD m 0).toNat 0 - 1)) (r.getD m 0) > 0 := by
          unfold rd
          rw [getD_set (by omega), if_pos rfl]
          exact hpos
        simp only [if_pos this]
        exact Ev.now _
      · unfold spec_DropRoot.f
        refine Ev.bind hvalid ?_
        simp only [if_true]
        refine Ev.bind hroots ?_
        simp only [if_true, hdom, Option.bind_some, Bool.not_true]
        refine Ev.step (fun n => spec_DropRoot.j0.eq_2 ..) ?_
        simp only [Bool.false_eq_true, if_false]
        refine Ev.bind c2 ?_
        simp only [if_pos a0, if_pos a1, hrd, if_pos hn.1, if_pos (show r.getD m 0 < ((counts g r).length : Int) by omega), hw, Option.bind_some]
        have : rd ((counts g r).set (r.getD m 0).toNat ((counts g r).getD (r.getD m 0).toNat 0 - 1)) (r.getD m 0) > 0 := by
          unfold rd
          rw [getD_set (by omega), if_pos rfl]
          exact hpos
        simp only [if_pos this]
        exact Ev.now _
    · have hinv : FInv g (without r m) False [] [r.getD m 0] ((counts g r).set (r.getD m 0).toNat ((counts g r).getD (r.getD m 0).toNat 0 - 1)) := by
        refine ⟨.nil, by rw [List.length_set]; exact hlen, hY, by simp, fun x hx => ?_, fun x hx => ?_, fun h => h.elim⟩
        · simp only [List.mem_singleton] at hx; rw [hx]; exact hn
        · simp only [List.mem_singleton] at hx
          rw [hx, getD_set (by omega), if_pos rfl]
          omega
      have hwl := without_len r m
      obtain ⟨O, c', f1, f2, f3, s, f4⟩ := freed_one g hg (without r m) (by omega) _ _ hinv
      refine ⟨O, ?_, ?_, fun h => absurd ⟨ho, a0, a1⟩ h, fun _ => ⟨f3, .inr ⟨s, f4⟩⟩⟩
      · unfold impl_DropRoot.f
        refine Ev.bind hgraph ?_
        simp only [if_true, if_neg (show ¬ (m : Int) < 0 by omega), decide_eq_false (show ¬ (m : Int) ≥ (r.length : Int) by omega)]
        refine Ev.step (fun n => impl_DropRoot.j0.eq_2 ..) ?_
        simp only [Bool.false_eq_true, if_false]
        refine Ev.bind c1 ?_
        simp only [if_pos a0, if_pos a1, hrd, if_pos hn.1, if_pos (show r.getD m 0 < ((counts g r).length : Int) by omega), hw, Option.bind_some]
        have : ¬ rd ((counts g r).set (r.getD m 0).toNat ((counts g r).getD (r.getD m 0).toNat 0 - 1)) (r.getD m 0) > 0 := by
          unfold rd
          rw [getD_set (by omega), if_pos rfl]
          exact hpos
        simp only [if_neg this]
        exact Ev.bind f1 (Ev.now _)
      · unfold spec_DropRoot.f
        refine Ev.bind hvalid ?_
        simp only [if_true]
        refine Ev.bind hroots ?_
        simp only [if_true, hdom, Option.bind_some, Bool.not_true]
        refine Ev.step (fun n => spec_DropRoot.j0.eq_2 ..) ?_
        simp only [Bool.false_eq_true, if_false]
        refine Ev.bind c2 ?_
        simp only [if_pos a0, if_pos a1, hrd, if_pos hn.1, if_pos (show r.getD m 0 < ((counts g r).length : Int) by omega), hw, Option.bind_some]
        have : ¬ rd ((counts g r).set (r.getD m 0).toNat ((counts g r).getD (r.getD m 0).toNat 0 - 1)) (r.getD m 0) > 0 := by
          unfold rd
          rw [getD_set (by omega), if_pos rfl]
          exact hpos
        simp only [if_neg this]
        exact Ev.bind f2 (Ev.now _)
  · have fail1 : Ev (fun k => impl_DropRoot.j0 k g r at_ true) [] := by
      refine Ev.step (fun n => impl_DropRoot.j0.eq_2 ..) ?_
      simp only [if_true]
      exact Ev.now _
    have fail2 : Ev (fun k => spec_DropRoot.j0 k g r at_ true) [] := by
      refine Ev.step (fun n => spec_DropRoot.j0.eq_2 ..) ?_
      simp only [if_true]
      exact Ev.now _
    refine ⟨[], ?_, ?_, fun _ => rfl, fun h => absurd h hok⟩
    · unfold impl_DropRoot.f
      refine Ev.bind (impl_GraphOk_ev g hz r hr) ?_
      by_cases ho : (okG g && okR g r) = true
      · simp only [ho, if_true]
        by_cases a0 : at_ < 0
        · simp only [if_pos a0]; exact fail1
        · simp only [if_neg a0]
          rw [decide_eq_true (show at_ ≥ (r.length : Int) from Int.not_lt.1 fun h => hok ⟨ho, by omega, h⟩)]
          exact fail1
      · simp only [ho, Bool.false_eq_true, if_false]; exact fail1
    · unfold spec_DropRoot.f
      refine Ev.bind (spec_validGraph_ev g hz) ?_
      cases hG : okG g with
      | false => simp only [Bool.false_eq_true, if_false]; exact fail2
      | true =>
        simp only [if_true]
        refine Ev.bind (spec_validRoots_ev r g.length hr hg1) ?_
        cases hR : (idx g.length r && decide (r.length ≤ 12)) with
        | false => simp only [Bool.false_eq_true, if_false]; exact fail2
        | true =>
          simp only [if_true]
          rw [w64 (by omega) (by omega), inRange_eq]
          simp only [Option.bind_some]
          rw [decide_eq_false (fun h => hok ⟨by rw [Bool.and_eq_true]; exact ⟨hG, hR⟩, by omega, by omega⟩)]
          exact fail2
end Go.Proofs.Ytljieofkagmdaaa.GE
