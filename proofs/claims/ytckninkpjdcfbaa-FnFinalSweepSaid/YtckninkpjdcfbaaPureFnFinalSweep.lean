/- Proved: finalizers run once; no condition beyond the statement's. -/
import Derived.Test.YtckninkpjdcfbaaFiTwice
import Derived.Test.YtckninkpjdcfbaaGrDraw
import Derived.Test.YtckninkpjdcfbaaRndOften
import Derived.Test.YtckninkpjdcfbaaGrSame
import Derived.Test.YtckninkpjdcfbaaGrHas
import Derived.Test.YtckninkpjdcfbaaQ0
import Derived.Test.YtckninkpjdcfbaaQ2
import Derived.Test.YtckninkpjdcfbaaQ4
import Derived.Test.YtckninkpjdcfbaaQ6
import Derived.Test.YtckninkpjdcfbaaQ10
import Derived.Test.YtckninkpjdcfbaaQ24
import Derived.Test.YtckninkpjdcfbaaQ26
set_option linter.unusedSimpArgs false
set_option linter.unusedVariables false
namespace Go.Proofs.Ytckninkpjdcfbaa.Pure
open Go.RowKit Go.Proofs.Ytckninkpjdcfbaa.Q Go.Proofs.YtckninkpjdcfbaaW.PrintWords Go.Proofs.YtckninkpjdcfbaaW.PrintLast Go.Proofs.GR Go.Proofs.Ytckninkpjdcfbaa.GE Go.Proofs.Ytckninkpjdcfbaa.RD Go.Proofs.Ytckninkpjdcfbaa.FI
theorem some_bind {α β : Type} (a : α) (f : α → Option β) : (some a).bind f = f a := by
  have h : ∀ o : Option α, o = some a → o.bind f = f a := by intro o e; rw [e, Option.bind_some]
  exact h _ rfl
theorem fin1_l0 {d : List Int} (hd : Bytes d) (g : List (List Int)) (r : List Int) (hg : g.length ≤ 100) : ∀ (e : Nat) (i c : Int) (l : List S64), (g.length : Int) - i = e → 0 ≤ i → 0 ≤ c → c + 5 * e ≤ 10000 → l.length + e ≤ 1000 →
    ∃ l', Ev (fun k => spec_DrawFinalSweep.l0 k g r l i d c) (g, r, l') ∧ l'.length ≤ l.length + e := by
  intro e
  induction e with
  | zero =>
    intro i c l hi h0 hc hc2 hl
    refine ⟨l, Ev.step (fun k => spec_DrawFinalSweep.l0.eq_2 ..) ?_, by omega⟩
    simp only [if_neg (show ¬ i < (g.length : Int) by omega)]
    exact Ev.now _
  | succ e ih =>
    intro i c l hi h0 hc hc2 hl
    obtain ⟨v, c1, hv, g0, g1, g2, g3⟩ := pick_ok hd (n := 2) hc (by omega)
    by_cases hz : v = 0
    · obtain ⟨a, c2, ha, p0, p1⟩ := often_ok hd (c := c1) (by omega) (by omega) i
      obtain ⟨b, c3, hb, q0, q1, q2, q3⟩ := pick_ok hd (n := wrap64 ((g.length : Int) + 1)) (c := c2) (by omega) (by omega)
      obtain ⟨f, c4, hf, r0, r1, r2, r3⟩ := pick_ok hd (n := 4) (c := c3) (by omega) (by omega)
      obtain ⟨l', h1, h2⟩ := ih (i + 1) c4 (l ++ [(⟨a, wrap64 (b - 1), (f == 0)⟩ : S64)]) (by omega) (by omega) (by omega) (by omega) (by rw [List.length_append, List.length_singleton]; omega)
      have h3 : (l ++ [(⟨a, wrap64 (b - 1), (f == 0)⟩ : S64)]).length = l.length + 1 := by rw [List.length_append]; rfl
      refine ⟨l', Ev.step (fun k => spec_DrawFinalSweep.l0.eq_2 ..) ?_, by omega⟩
      simp only [if_pos (show i < (g.length : Int) by omega), hv, some_bind, if_pos hz, ha, hb, hf, if_pos (show l.length < 5864062014805 by omega), wr (x := i + 1) (by omega) (by omega)]
      exact h1
    · obtain ⟨l', h1, h2⟩ := ih (i + 1) c1 l (by omega) (by omega) (by omega) (by omega) (by omega)
      refine ⟨l', Ev.step (fun k => spec_DrawFinalSweep.l0.eq_2 ..) ?_, by omega⟩
      simp only [if_pos (show i < (g.length : Int) by omega), hv, some_bind, if_neg hz, wr (x := i + 1) (by omega) (by omega)]
      exact h1
theorem drawFin_ev {l d : List Int} (hn : spec_newRnd.f l = some (d, 0)) (hd : Bytes d) : ∃ g r fs, Ev (fun k => spec_DrawFinalSweep.f k l) (g, r, fs) ∧ Small g ∧ r.length ≤ 200 ∧ fs.length ≤ 100 := by
  obtain ⟨g, r, c1, hgr, hsm, hrl, p0, p1⟩ := graph_ev hd
  have hgl := hsm.1
  obtain ⟨fs, hh, hle⟩ := fin1_l0 hd g r (by omega) g.length 0 c1 [] (by omega) (by omega) p0 (by omega) (by simp; omega)
  refine ⟨g, r, fs, ?_, hsm, hrl, by simp at hle; omega⟩
  unfold spec_DrawFinalSweep.f
  simp only [hn, Option.bind_some]
  exact Ev.bind hgr hh
theorem sweep_spec {g : List (List Int)} {r : List Int} {l : List S64} (hz : Sz g) (h : Vd g r l) : Ev (fun k => spec_FinalSweep.f k g r l) (sweep g r l) := by
  obtain ⟨hg, hr, h12, hgl, hl, hin⟩ := h.gr
  have hok := h.ok
  rw [Bool.and_eq_true] at hok
  unfold spec_FinalSweep.f
  refine Ev.bind (spec_validGraph_ev g hz) ?_
  simp only [hok.1, if_true]
  refine Ev.bind (show Ev (fun k => spec_validRoots.f k r (g.length : Int)) (okR g r) from spec_validRoots_ev r g.length (by omega) (by omega)) ?_
  simp only [hok.2, if_true]
  refine Ev.bind (validFinals_ev l (by omega) g.length (by omega)) ?_
  simp only [h.fin, if_true]
  refine Ev.bind (finalized_ev h) ?_
  exact Ev.now _
theorem sweep_spec_bad {g : List (List Int)} {r : List Int} {l : List S64} (hz : Sz g) (hgl : g.length ≤ 1000) (hr : r.length ≤ 1000) (hl : l.length ≤ 1000) (h : ¬ Vd g r l) : Ev (fun k => spec_FinalSweep.f k g r l) (([] : List Int), ([] : List Int), ([] : List Int), ([] : List S64)) := by
  unfold spec_FinalSweep.f
  refine Ev.bind (spec_validGraph_ev g hz) ?_
  cases hG : okG g with
  | false => simp only [Bool.false_eq_true, if_false]; exact Ev.now _
  | true =>
    simp only [if_true]
    refine Ev.bind (show Ev (fun k => spec_validRoots.f k r (g.length : Int)) (okR g r) from spec_validRoots_ev r g.length (by omega) (by omega)) ?_
    cases hR : okR g r with
    | false => simp only [Bool.false_eq_true, if_false]; exact Ev.now _
    | true =>
      simp only [if_true]
      refine Ev.bind (validFinals_ev l (by omega) g.length (by omega)) ?_
      cases hf : finOk (g.length : Int) l with
      | false => simp only [Bool.false_eq_true, if_false]; exact Ev.now _
      | true => exact absurd ⟨by rw [hG, hR]; rfl, hf⟩ h
theorem sameFinals_ev (l : List S64) (hl : l.length ≤ 10000) : Ev (fun k => spec_sameFinals.f k l l) true := by
  unfold spec_sameFinals.f
  simp only [if_true]
  have key : ∀ (d n : Nat), l.length - n = d → n ≤ l.length → Ev (fun k => spec_sameFinals.l0 k l l (n : Int)) true := by
    intro d
    induction d with
    | zero =>
      intro n h1 h2
      obtain rfl : n = l.length := by omega
      refine Ev.step (fun k => spec_sameFinals.l0.eq_2 ..) ?_
      simp only [if_neg (show ¬ (l.length : Int) < (l.length : Int) by omega)]
      exact Ev.now _
    | succ d ih =>
      intro n h1 h2
      refine Ev.step (fun k => spec_sameFinals.l0.eq_2 ..) ?_
      simp only [if_pos (show (n : Int) < (l.length : Int) by omega), if_pos (show (0 : Int) ≤ (n : Int) by omega), beq_self_eq_true, Bool.not_true, Bool.or_false, Bool.false_eq_true, if_false, wn (show n ≤ 100000000 by omega)]
      exact ih (n + 1) (by omega) (by omega)
  exact key l.length 0 rfl (Nat.zero_le _)
theorem sameSweep_ev (a b c : List Int) (l : List S64) (ha : a.length ≤ 10000) (hb : b.length ≤ 10000) (hc : c.length ≤ 10000) (hl : l.length ≤ 10000) : Ev (fun k => spec_SameSweep.f k a b c l a b c l) true := by
  unfold spec_SameSweep.f
  have hs : ∀ x : List Int, x.length ≤ 10000 → Ev (fun k => spec_sameNums.f k x x) true := fun x hx => by
    unfold spec_sameNums.f
    simp only [if_true]
    have := spec_sameNums_l x x rfl (by omega) x.length 0 0 rfl (Nat.zero_le _) (by omega)
    simpa using this
  refine Ev.bind (hs a ha) ?_
  simp only [if_true]
  refine Ev.bind (hs b hb) ?_
  simp only [if_true]
  refine Ev.bind (hs c hc) ?_
  simp only [if_true]
  refine Ev.bind (sameFinals_ev l hl) ?_
  exact Ev.now _
theorem idxs2_both (l : List Bool) : (idxs l false).length + (idxs l true).length = l.length := by
  have key : ∀ n : Nat, (idxsTo l false n).length + (idxsTo l true n).length = n := by
    intro n
    induction n with
    | zero => simp [idxsTo_zero]
    | succ n ih =>
      rw [idxsTo_succ, idxsTo_succ]
      cases l.getD n false with
      | false => simp; omega
      | true => simp; omega
  exact key l.length
theorem FnFinalSweep : laws_FnFinalSweep.Pure := by
  intro l h0 h1 hw
  refine Ev.rounds (g := fun k => laws_FnFinalSweep.f k l) ?_
  unfold laws_FnFinalSweep.f
  by_cases c0 : (l.length : Int) > 1048576
  · simp only [if_pos c0]; exact Ev.now _
  simp only [if_neg c0]
  have hB := Bytes.of c0 hw
  obtain ⟨d, hn, hd, -⟩ := newRnd_ok hB
  obtain ⟨g, r, fs, hdr, hsm, hrl, hfl⟩ := drawFin_ev hn hd
  have hz := hsm.sz
  have hg1 := hsm.1
  refine Ev.bind hdr ?_
  by_cases hv : Vd g r fs
  · obtain ⟨hg, hr, h12, hgl, hl, hin⟩ := hv.gr
    obtain ⟨s2, s3⟩ := sweep_roots hv
    have hnx := hv.next
    have hun := swGo_undone (flags g r) fs [] r []
    have hul : undone fs ≤ fs.length := List.length_filter_le ..
    have l1 : (sweep g r fs).1.length ≤ 1000 := by
      show (swGo (flags g r) fs [] r []).1.length ≤ 1000
      have e0 : undone ([] : List S64) = 0 := rfl
      rw [e0, List.length_nil] at hun
      omega
    have l3 : (sweep g r fs).2.2.1.length + (idxs (flags g (sweep g r fs).2.1) true).length = g.length := by
      have := idxs2_both (flags g (sweep g r fs).2.1)
      rw [flags_length] at this
      exact this
    have l4 : (sweep g r fs).2.2.2.length = fs.length := swGo_len _ _ _
    have l2 : r.length ≤ (sweep g r fs).2.1.length := swGo_roots _ _ _ _ _
    refine Ev.bind (sweep_impl hz hv) (Ev.bind (sweep_spec hz hv) (Ev.bind (sameSweep_ev (sweep g r fs).1 (sweep g r fs).2.1 (sweep g r fs).2.2.1 (sweep g r fs).2.2.2 (by omega) (by omega) (by omega) (by omega)) ?_))
    simp only [if_true]
    have hj : ∀ q : Bool, Ev (fun k => laws_FnFinalSweep.j0 k g r fs true q (sweep g r fs).1 (sweep g r fs).2.1 (sweep g r fs).2.2.1 (sweep g r fs).2.2.2) true := by
      intro q
      refine Ev.step (fun k => laws_FnFinalSweep.j0.eq_2 ..) ?_
      cases q with
      | true => simp only [if_true]; exact Ev.now _
      | false =>
        simp only [Bool.false_eq_true, if_false]
        refine Ev.bind (sweep_impl hz hnx) (Ev.bind (impl_ReachedFrom_ev g hz _ (by omega)) ?_)
        have hru : (sweep g (sweep g r fs).2.1 (sweep g r fs).2.2.2).1.length ≤ 1000 := by
          have h_ := swGo_undone (flags g (sweep g r fs).2.1) (sweep g r fs).2.2.2 [] (sweep g r fs).2.1 []
          have e0 : undone ([] : List S64) = 0 := rfl
          rw [e0, List.length_nil] at h_
          have h2_ : undone (sweep g r fs).2.2.2 ≤ (sweep g r fs).2.2.2.length := List.length_filter_le ..
          show (swGo (flags g (sweep g r fs).2.1) (sweep g r fs).2.2.2 [] (sweep g r fs).2.1 []).1.length ≤ 1000
          omega
        have hre : (reachedR g (sweep g r fs).2.1) = idxs (flags g (sweep g r fs).2.1) true := by
          unfold reachedR; rw [if_pos hnx.ok]
        have key : ∀ (e n : Nat), (sweep g r fs).1.length - n = e → n ≤ (sweep g r fs).1.length → Ev (fun k => laws_FnFinalSweep.l0 k g r fs (reachedR g (sweep g r fs).2.1) (n : Int) (sweep g r fs).1 (sweep g r fs).2.1 (sweep g r fs).2.2.1 (sweep g r fs).2.2.2 (sweep g (sweep g r fs).2.1 (sweep g r fs).2.2.2).1 (sweep g (sweep g r fs).2.1 (sweep g r fs).2.2.2).2.1 (sweep g (sweep g r fs).2.1 (sweep g r fs).2.2.2).2.2.1 (sweep g (sweep g r fs).2.1 (sweep g r fs).2.2.2).2.2.2) true := by
          intro e
          induction e with
          | zero =>
            intro n g1 g2
            obtain rfl : n = (sweep g r fs).1.length := by omega
            refine Ev.step (fun k => laws_FnFinalSweep.l0.eq_2 ..) ?_
            have hw : wrap64 (((reachedR g (sweep g r fs).2.1).length : Int) + ((sweep g r fs).2.2.1.length : Int)) = (g.length : Int) := by
              rw [hre]; unfold wrap64; omega
            simp only [if_neg (show ¬ ((sweep g r fs).1.length : Int) < ((sweep g r fs).1.length : Int) by omega), hw, if_true, if_pos (show ((sweep g r fs).2.1.length : Int) ≥ (r.length : Int) by omega), if_pos (show ((sweep g r fs).2.2.2.length : Int) = (fs.length : Int) by omega)]
            exact Ev.now _
          | succ e ih =>
            intro n g1 g2
            have hlt : n < (sweep g r fs).1.length := by omega
            refine Ev.step (fun k => laws_FnFinalSweep.l0.eq_2 ..) ?_
            simp only [if_pos (show (n : Int) < ((sweep g r fs).1.length : Int) by omega), if_pos (show (0 : Int) ≤ (n : Int) by omega)]
            have hmem : rd (sweep g r fs).1 (n : Int) ∈ (sweep g r fs).1 := by
              rw [rd_nat _ n _ rfl]; exact getD_mem hlt
            refine Ev.bind (HasInt_ev _ _ (by omega)) ?_
            simp only [decide_eq_false (sweep_once g r (sweep g r fs).2.1 fs _ hmem), Bool.false_eq_true, if_false, wn (show n ≤ 100000000 by omega)]
            exact ih (n + 1) (by omega) (by omega)
        exact key _ 0 rfl (Nat.zero_le _)
    by_cases hq : ((sweep g r fs).2.1.length : Int) = 0
    · simp only [if_pos hq]; exact hj _
    · simp only [if_neg hq]; exact hj _
  · refine Ev.bind (sweep_bad (g := g) (r := r) (l := fs) hz (by omega) hv) (Ev.bind (sweep_spec_bad (g := g) (r := r) (l := fs) hz (by omega) (by omega) (by omega) hv) (Ev.bind (sameSweep_ev [] [] [] [] (by simp) (by simp) (by simp) (by simp)) ?_))
    simp only [if_true, List.length_nil, Int.ofNat_zero]
    refine Ev.step (fun k => laws_FnFinalSweep.j0.eq_2 ..) ?_
    simp only [show ((((0 : Nat) : Int)) == 0) = true from rfl, beq_self_eq_true, if_true]
    exact Ev.now _
end Go.Proofs.Ytckninkpjdcfbaa.Pure
