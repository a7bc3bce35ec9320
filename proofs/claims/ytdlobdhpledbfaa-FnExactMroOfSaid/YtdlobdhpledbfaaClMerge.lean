/- The two merges of orders answer the same. -/
import Derived.Test.YtdlobdhpledbfaaClMath
import Derived.Test.YtdlobdhpledbfaaGrHas
import Derived.Test.YtdlobdhpledbfaaQ0
import Derived.Test.YtdlobdhpledbfaaQ1
import Derived.Test.YtdlobdhpledbfaaQ2
import Derived.Test.YtdlobdhpledbfaaQ3
set_option linter.unusedSimpArgs false
set_option linter.unusedVariables false
namespace Go.Proofs.Ytdlobdhpledbfaa.CL
open Go.RowKit Go.Proofs.Ytdlobdhpledbfaa.Q Go.Proofs.YtdlobdhpledbfaaW.PrintWords Go.Proofs.GR Go.Proofs.Ytdlobdhpledbfaa.GE
theorem contains_ev (l : List Int) (a : Int) (hl : l.length ≤ 100000000) : Ev (fun k => slices_Contains_int_int.f k l a) (decide (a ∈ l)) := by
  obtain ⟨k, h⟩ := contains_ex l a (by omega)
  exact Ev.of (slices_Contains_int_int.mono l a) h
/-- Lists of bounded size, with no number below 0. -/
structure Bd (ls : List (List Int)) : Prop where
  len : ls.length ≤ 1000
  rows : ∀ l ∈ ls, l.length ≤ 1000
  nn : ∀ l ∈ ls, ∀ x ∈ l, 0 ≤ x
theorem rdL (ls : List (List Int)) (n : Nat) (h : n < ls.length) : rd_L1 ls (n : Int) = ls[n] := by unfold rd_L1; simp [h]
theorem headFree_l (ls : List (List Int)) (c : Int) (hb : Bd ls) : ∀ (d n : Nat), ls.length - n = d → n ≤ ls.length → Ev (fun k => spec_headFree.l0 k ls c (n : Int)) (mgFree (ls.drop n) c) := by
  have hbl := hb.len
  intro d
  induction d with
  | zero =>
    intro n h1 h2
    obtain rfl : n = ls.length := by omega
    refine Ev.step (fun k => spec_headFree.l0.eq_2 ..) ?_
    simp only [if_neg (show ¬ (ls.length : Int) < (ls.length : Int) by omega), List.drop_length]
    exact Ev.now _
  | succ d ih =>
    intro n h1 h2
    have hn : n < ls.length := by omega
    have hr := hb.rows _ (List.getElem_mem hn)
    have ihn := ih (n + 1) (by omega) (by omega)
    have hd : ls.drop n = ls[n] :: ls.drop (n + 1) := List.drop_eq_getElem_cons hn
    have e : mgFree (ls.drop n) c = (!(decide (c ∈ ls[n].drop 1)) && mgFree (ls.drop (n + 1)) c) := by
      rw [hd]; unfold mgFree; rw [List.any_cons, Bool.not_or]
    rw [e]
    refine Ev.step (fun k => spec_headFree.l0.eq_2 ..) ?_
    simp only [if_pos (show (n : Int) < (ls.length : Int) by omega), if_pos (show (0 : Int) ≤ (n : Int) by omega), rdL ls n hn]
    rw [w64 (x := (n : Int) + 1) (by omega) (by omega), show (n : Int) + 1 = ((n + 1 : Nat) : Int) by omega]
    by_cases q : ((ls[n].length : Nat) : Int) > 1
    · simp only [if_pos q, if_pos (show (1 : Int) ≤ (ls[n].length : Int) by omega)]
      refine Ev.bind (inList_ev (ls[n].drop 1) c (by rw [List.length_drop]; omega)) ?_
      by_cases q2 : c ∈ ls[n].drop 1
      · simp only [decide_eq_true q2, if_true, Bool.not_true, Bool.false_and]
        exact Ev.now _
      · simp only [decide_eq_false q2, Bool.false_eq_true, if_false, Bool.not_false, Bool.true_and]
        exact ihn
    · simp only [if_neg q]
      have : ls[n].drop 1 = [] := List.drop_eq_nil_of_le (by omega)
      rw [this]
      simp only [List.not_mem_nil, decide_false, Bool.not_false, Bool.true_and]
      exact ihn
theorem headFree_ev (ls : List (List Int)) (c : Int) (hb : Bd ls) : Ev (fun k => spec_headFree.f k ls c) (mgFree ls c) := by
  unfold spec_headFree.f
  have := headFree_l ls c hb ls.length 0 (by omega) (by omega)
  rw [List.drop_zero] at this
  exact this
theorem free_filter (ls : List (List Int)) (c : Int) : mgFree (ls.filter ne) c = mgFree ls c := by
  unfold mgFree
  congr 1
  rw [Bool.eq_iff_iff, List.any_eq_true, List.any_eq_true]
  constructor
  · rintro ⟨m, hm, hc⟩
    exact ⟨m, (List.mem_filter.1 hm).1, hc⟩
  · rintro ⟨m, hm, hc⟩
    refine ⟨m, List.mem_filter.2 ⟨hm, ?_⟩, hc⟩
    rw [ne_iff]
    rintro rfl
    simp at hc
def scan (fr : Int → Bool) : List (List Int) → Int × Bool → Int × Bool
  | [], s => s
  | m :: rest, s => if m.length = 0 then scan fr rest s else scan fr rest ((if s.1 < 0 ∧ fr (m.headD 0) = true then m.headD 0 else s.1), true)
theorem scan_done (fr : Int → Bool) : ∀ (ls : List (List Int)) (f : Int) (b : Bool), 0 ≤ f → scan fr ls (f, b) = (f, b || decide (ls.filter ne ≠ []))
  | [], f, b, h => by simp [scan]
  | m :: rest, f, b, h => by
    unfold scan
    by_cases q : m.length = 0
    · rw [if_pos q, scan_done fr rest f b h, List.filter_cons_of_neg (by unfold ne; simp [q])]
    · rw [if_neg q, if_neg (by rintro ⟨q2, _⟩; simp only at q2; omega), scan_done fr rest f true h, List.filter_cons_of_pos (by unfold ne; simp [q])]
      simp
theorem scan_eq (fr : Int → Bool) : ∀ (ls : List (List Int)) (b : Bool), (∀ l ∈ ls, ∀ x ∈ l, (0 : Int) ≤ x) → scan fr ls (-1, b) = ((match (ls.filter ne).find? (fun l => fr (l.headD 0)) with | some l => l.headD 0 | none => -1), b || decide (ls.filter ne ≠ []))
  | [], b, h => by simp [scan]
  | m :: rest, b, h => by
    unfold scan
    by_cases q : m.length = 0
    · rw [if_pos q, scan_eq fr rest b (fun l hl => h l (List.mem_cons_of_mem _ hl)), List.filter_cons_of_neg (by unfold ne; simp [q])]
    · have hne : ne m = true := by unfold ne; simp [q]
      rw [if_neg q, List.filter_cons_of_pos hne]
      by_cases q2 : fr (m.headD 0) = true
      · rw [if_pos ⟨by show (-1 : Int) < 0; omega, q2⟩]
        have h0 : 0 ≤ m.headD 0 := by
          have e := cons_of_ne (ne_iff.1 hne)
          exact h m List.mem_cons_self _ (by rw [e]; simp)
        rw [scan_done fr rest _ _ h0, List.find?_cons_of_pos (p := fun l : List Int => fr (l.headD 0)) q2]
        simp
      · rw [if_neg (fun z => q2 z.2), scan_eq fr rest true (fun l hl => h l (List.mem_cons_of_mem _ hl)), List.find?_cons_of_neg (p := fun l : List Int => fr (l.headD 0)) (by simpa using q2)]
        simp
def fin (ls : List (List Int)) (out : List Int) (s : Int × Bool) (k : Nat) : Option (List Int × Bool) :=
  if s.2 = true then (if s.1 < 0 then some ([], false) else if out.length < 17592186044416 then spec_mergeOrders.l2 k ls (out ++ [s.1]) s.1 [] 0 else none) else some (out, true)
theorem l1_ev (ls : List (List Int)) (out : List Int) (hb : Bd ls) (r : List Int × Bool) : ∀ (d n : Nat) (f : Int) (b : Bool), ls.length - n = d → n ≤ ls.length → Ev (fin ls out (scan (mgFree ls) (ls.drop n) (f, b))) r → Ev (fun k => spec_mergeOrders.l1 k ls out f b (n : Int)) r := by
  have hbl := hb.len
  intro d
  induction d with
  | zero =>
    intro n f b h1 h2 h
    obtain rfl : n = ls.length := by omega
    rw [List.drop_length] at h
    refine Ev.step (fun k => spec_mergeOrders.l1.eq_2 ..) ?_
    simp only [if_neg (show ¬ (ls.length : Int) < (ls.length : Int) by omega)]
    exact h
  | succ d ih =>
    intro n f b h1 h2 h
    have hn : n < ls.length := by omega
    have hd : ls.drop n = ls[n] :: ls.drop (n + 1) := List.drop_eq_getElem_cons hn
    rw [hd] at h
    unfold scan at h
    refine Ev.step (fun k => spec_mergeOrders.l1.eq_2 ..) ?_
    simp only [if_pos (show (n : Int) < (ls.length : Int) by omega), if_pos (show (0 : Int) ≤ (n : Int) by omega), rdL ls n hn]
    rw [w64 (x := (n : Int) + 1) (by omega) (by omega), show (n : Int) + 1 = ((n + 1 : Nat) : Int) by omega]
    by_cases q : ls[n].length = 0
    · rw [if_pos q] at h
      simp only [if_neg (show ¬ ((ls[n].length : Nat) : Int) > 0 by omega)]
      exact ih (n + 1) f b (by omega) (by omega) h
    · rw [if_neg q] at h
      simp only [if_pos (show ((ls[n].length : Nat) : Int) > 0 by omega)]
      have hrd : rd ls[n] 0 = ls[n].headD 0 := by cases ls[n] <;> rfl
      by_cases q2 : f < 0
      · simp only [if_pos q2, if_pos (show (0 : Int) < ((ls[n].length : Nat) : Int) by omega), hrd]
        refine Ev.bind (headFree_ev ls _ hb) ?_
        by_cases q3 : mgFree ls (ls[n].headD 0) = true
        · rw [if_pos ⟨q2, q3⟩] at h
          simp only [q3, if_true]
          exact ih (n + 1) _ true (by omega) (by omega) h
        · rw [if_neg (fun z => q3 z.2)] at h
          simp only [q3, if_false]
          exact ih (n + 1) _ true (by omega) (by omega) h
      · rw [if_neg (fun z => q2 z.1)] at h
        simp only [if_neg q2]
        exact ih (n + 1) _ true (by omega) (by omega) h
def cut (h : Int) (m : List Int) : List Int := if m.length = 0 then m else if m.headD 0 = h then m.drop 1 else m
theorem l2_ev (ls : List (List Int)) (out : List Int) (h : Int) (hb : Bd ls) (r : List Int × Bool) : ∀ (d n : Nat) (acc : List (List Int)), ls.length - n = d → n ≤ ls.length → acc.length = n → Ev (fun k => spec_mergeOrders.l0 k (acc ++ (ls.drop n).map (cut h)) out) r → Ev (fun k => spec_mergeOrders.l2 k ls out h acc (n : Int)) r := by
  have hbl := hb.len
  intro d
  induction d with
  | zero =>
    intro n acc h1 h2 h3 hr
    obtain rfl : n = ls.length := by omega
    rw [List.drop_length] at hr
    refine Ev.step (fun k => spec_mergeOrders.l2.eq_2 ..) ?_
    simp only [if_neg (show ¬ (ls.length : Int) < (ls.length : Int) by omega)]
    simpa using hr
  | succ d ih =>
    intro n acc h1 h2 h3 hr
    have hn : n < ls.length := by omega
    have hd : ls.drop n = ls[n] :: ls.drop (n + 1) := List.drop_eq_getElem_cons hn
    rw [hd, List.map_cons, show acc ++ cut h ls[n] :: (ls.drop (n + 1)).map (cut h) = (acc ++ [cut h ls[n]]) ++ (ls.drop (n + 1)).map (cut h) by simp] at hr
    have go := ih (n + 1) (acc ++ [cut h ls[n]]) (by omega) (by omega) (by simp [h3]) hr
    refine Ev.step (fun k => spec_mergeOrders.l2.eq_2 ..) ?_
    simp only [if_pos (show (n : Int) < (ls.length : Int) by omega), if_pos (show (0 : Int) ≤ (n : Int) by omega), rdL ls n hn, if_pos (show acc.length < 5864062014805 by omega)]
    rw [w64 (x := (n : Int) + 1) (by omega) (by omega), show (n : Int) + 1 = ((n + 1 : Nat) : Int) by omega]
    have hrd : rd ls[n] 0 = ls[n].headD 0 := by cases ls[n] <;> rfl
    unfold cut at go
    by_cases q : ls[n].length = 0
    · rw [if_pos q] at go
      simp only [if_neg (show ¬ ((ls[n].length : Nat) : Int) > 0 by omega)]
      exact go
    · rw [if_neg q] at go
      simp only [if_pos (show ((ls[n].length : Nat) : Int) > 0 by omega), if_pos (show (0 : Int) < ((ls[n].length : Nat) : Int) by omega), hrd]
      by_cases q2 : ls[n].headD 0 = h
      · rw [if_pos q2] at go
        simp only [if_pos q2, if_pos (show (1 : Int) ≤ ((ls[n].length : Nat) : Int) by omega)]
        exact go
      · rw [if_neg q2] at go
        simp only [if_neg q2]
        exact go
def res (out : List Int) (r : List Int × Bool) : List Int × Bool := if r.2 = true then (out ++ r.1, true) else ([], false)
theorem Bd.filter {ls : List (List Int)} (h : Bd ls) : Bd (ls.filter ne) := ⟨Nat.le_trans (List.length_filter_le ..) h.len, fun l hl => h.rows l (List.mem_filter.1 hl).1, fun l hl => h.nn l (List.mem_filter.1 hl).1⟩
theorem Bd.map {ls : List (List Int)} (h : Bd ls) (f : List Int → List Int) (hf : ∀ m, f m = m ∨ f m = m.drop 1) : Bd (ls.map f) := by
  refine ⟨by simpa using h.len, fun l hl => ?_, fun l hl x hx => ?_⟩
  · obtain ⟨m, hm, rfl⟩ := List.mem_map.1 hl
    have := h.rows m hm
    rcases hf m with e | e <;> rw [e]
    · exact this
    · rw [List.length_drop]; omega
  · obtain ⟨m, hm, rfl⟩ := List.mem_map.1 hl
    rcases hf m with e | e <;> rw [e] at hx
    · exact h.nn m hm x hx
    · exact h.nn m hm x (List.mem_of_mem_drop hx)
theorem Bd.stp {ls : List (List Int)} (h : Bd ls) (c : Int) : Bd (stp c ls) := h.map _ (fun m => by split <;> simp)
theorem Bd.cut {ls : List (List Int)} (h : Bd ls) (c : Int) : Bd (ls.map (cut c)) := h.map _ (fun m => by
  unfold CL.cut
  split
  · exact .inl rfl
  · split
    · exact .inr rfl
    · exact .inl rfl)
theorem res_step (out : List Int) (h : Int) (r : List Int × Bool) : res (out ++ [h]) r = res out (if r.2 = true then (h :: r.1, true) else ([], false)) := by
  unfold res
  by_cases q : r.2 = true
  · simp [q]
  · simp [q]
theorem empty_of {ls : List (List Int)} (ht : total ls = 0) : ls.filter ne = [] := by
  have ht0 : total (ls.filter ne) = 0 := by rw [total_filter]; exact ht
  cases hq : ls.filter ne with
  | nil => rfl
  | cons a b =>
    have ha : a ∈ ls.filter ne := by rw [hq]; exact List.mem_cons_self
    have : a ≠ [] := ne_iff.1 (List.mem_filter.1 ha).2
    have h1 := List.length_pos_iff.2 this
    rw [hq] at ht0
    unfold total at ht0
    rw [List.map_cons, List.sum_cons] at ht0
    omega
theorem spec_merge (n : Nat) : ∀ (ls : List (List Int)) (out : List Int), Bd ls → total ls ≤ n → out.length + n ≤ 10000000 → Ev (fun k => spec_mergeOrders.l0 k ls out) (res out (mrg (n + 1) ls)) := by
  induction n with
  | zero =>
    intro ls out hb ht ho
    have e : ls.filter ne = [] := by
      exact empty_of (by omega)
    refine Ev.step (fun k => spec_mergeOrders.l0.eq_2 ..) ?_
    refine l1_ev ls out hb _ ls.length 0 (-1) false (by omega) (by omega) ?_
    rw [List.drop_zero, scan_eq _ _ _ hb.nn]
    unfold mrg fin res
    simp [e]
    exact Ev.now _
  | succ n ih =>
    intro ls out hb ht ho
    refine Ev.step (fun k => spec_mergeOrders.l0.eq_2 ..) ?_
    refine l1_ev ls out hb _ ls.length 0 (-1) false (by omega) (by omega) ?_
    rw [List.drop_zero, scan_eq _ _ _ hb.nn]
    rw [mrg]
    by_cases q : (ls.filter ne).length = 0
    · have e := List.length_eq_zero_iff.1 q
      unfold fin res
      simp [e]
      exact Ev.now _
    · have e : ls.filter ne ≠ [] := fun z => q (by rw [z]; rfl)
      rw [if_neg q]
      unfold fin
      rw [decide_eq_true e, Bool.false_or]
      simp only [if_true]
      have hpk : (ls.filter ne).find? (fun l => mgFree ls (l.headD 0)) = mgPick (ls.filter ne) := by
        unfold mgPick
        congr 1
        funext l
        exact (free_filter ls _).symm
      rw [hpk]
      cases hp : mgPick (ls.filter ne) with
      | none =>
        simp only [if_pos (show (-1 : Int) < 0 by omega)]
        exact Ev.now _
      | some l =>
        simp only
        obtain ⟨hl, hfr⟩ := pick_spec hp
        have hlm := List.mem_filter.1 hl
        have hn0 := ne_iff.1 hlm.2
        have h0 : 0 ≤ l.headD 0 := hb.nn l hlm.1 _ (by rw [cons_of_ne hn0]; simp)
        simp only [if_neg (show ¬ l.headD 0 < 0 by omega), if_pos (show out.length < 17592186044416 by omega)]
        refine l2_ev ls _ _ hb _ ls.length 0 [] (by omega) (by omega) rfl ?_
        rw [List.drop_zero, List.nil_append]
        have hlt := total_stp_lt hl hn0 rfl
        rw [total_filter] at hlt
        have hf : (ls.map (cut (l.headD 0))).filter ne = (stp (l.headD 0) (ls.filter ne)).filter ne := filter_map_eq _ _ (fun m hm => by
          unfold cut
          rw [if_neg (fun z => ne_iff.1 hm (List.length_eq_zero_iff.1 z))]) (by simp [cut]) ls
        have htt : total (ls.map (cut (l.headD 0))) ≤ n := by
          rw [← total_filter, hf, total_filter]; omega
        have := ih (ls.map (cut (l.headD 0))) (out ++ [l.headD 0]) (hb.cut _) htt (by simp; omega)
        rw [mrg_congr (n + 1) hf, res_step] at this
        exact this
theorem impl_merge (n : Nat) : ∀ (ls : List (List Int)) (out : List Int), Bd ls → total ls ≤ n → out.length + n ≤ 900000 → Ev (fun k => impl_mergeOrders.l0 k ls out) (res out (mrg (n + 1) ls)) := by
  induction n with
  | zero =>
    intro ls out hb ht ho
    have e : ls.filter ne = [] := by
      exact empty_of (by omega)
    refine Ev.step (fun k => impl_mergeOrders.l0.eq_2 ..) ?_
    have e' : ls.filter (fun l => !decide (l.length = 0)) = [] := e
    rw [e']
    unfold mrg res
    simp [e]
    exact Ev.now _
  | succ n ih =>
    intro ls out hb ht ho
    refine Ev.step (fun k => impl_mergeOrders.l0.eq_2 ..) ?_
    rw [mrg]
    have e' : ls.filter (fun l => !decide (l.length = 0)) = ls.filter ne := rfl
    rw [e']
    by_cases q : (ls.filter ne).length = 0
    · simp only [if_pos q]
      unfold res
      simp
      exact Ev.now _
    · simp only [if_neg q]
      cases hp : mgPick (ls.filter ne) with
      | none =>
        simp only
        exact Ev.now _
      | some l =>
        simp only
        obtain ⟨hl, hfr⟩ := pick_spec hp
        have hlm := List.mem_filter.1 hl
        have hn0 := ne_iff.1 hlm.2
        have h0 : 0 ≤ l.headD 0 := hb.nn l hlm.1 _ (by rw [cons_of_ne hn0]; simp)
        simp only [if_neg (show ¬ l.headD 0 < 0 by omega), if_pos (show out.length < 1000000 by omega)]
        have hlt := total_stp_lt hl hn0 rfl
        rw [total_filter] at hlt
        have := ih (stp (l.headD 0) (ls.filter ne)) (out ++ [l.headD 0]) (hb.filter.stp _) (by omega) (by simp; omega)
        rw [res_step] at this
        exact this
/-- Both merges come to one answer, and what it is. -/
theorem merges (ls : List (List Int)) (hb : Bd ls) (ht : total ls ≤ 100000) : ∃ r : List Int × Bool, Ev (fun k => spec_mergeOrders.f k ls) r ∧ Ev (fun k => impl_mergeOrders.f k ls) r ∧ (r.2 = false → r.1 = []) ∧ (r.2 = true → Mg ls r.1) := by
  refine ⟨res [] (mrg (100000 + 1) ls), spec_merge 100000 ls [] hb ht (by simp), impl_merge 100000 ls [] hb ht (by simp), fun h => ?_, fun h => ?_⟩
  · unfold res at h ⊢
    split at h
    · simp at h
    · rename_i q; rw [if_neg q]
  · unfold res at h ⊢
    split at h
    · rename_i q
      rw [if_pos q, List.nil_append]
      exact mrg_ok _ _ q
    · simp at h
end Go.Proofs.Ytdlobdhpledbfaa.CL
