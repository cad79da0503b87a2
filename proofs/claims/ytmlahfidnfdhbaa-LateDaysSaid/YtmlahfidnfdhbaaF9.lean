import Derived.Test.YtmlahfidnfdhbaaF8
set_option linter.unusedSimpArgs false
set_option linter.unusedVariables false
namespace Go.Proofs.Ytmlahfidnfdhbaa.Pr
open Go.RowKit Go.Proofs.YtmlahfidnfdhbaaW.PrintWords Go.Proofs.YtmlahfidnfdhbaaW.PrintLast Go.Proofs.YtmlahfidnfdhbaaW.PrintMore

theorem dayErr_ev (l : List S58) (side : Int) : Ev (fun k => fippleref05_DayError.f k l side) (if sideErr l side = 0 then (if l.length = 0 then 5 else 0) else sideErr l side) := by
  unfold fippleref05_DayError.f
  refine Ev.bind (checkSide_ev l side) ?_
  by_cases h : sideErr l side = 0
  · simp only [if_pos h]
    by_cases h0 : l.length = 0
    · simp only [if_pos h0, if_pos (show (l.length : Int) = 0 by omega)]; exact Ev.now _
    · simp only [if_neg h0, if_neg (show ¬ (l.length : Int) = 0 by omega)]; exact Ev.now _
  · simp only [if_neg h]
    refine Ev.bind (checkSide_ev l side) ?_
    exact Ev.now _
theorem refShortest_ev (l : List S58) (side : Int) : Ev (fun k => fippleref05_Shortest.f k l side) ((tightR l side).2.1, (tightR l side).2.2) := by
  unfold fippleref05_Shortest.f tightR
  refine Ev.bind (dayErr_ev l side) ?_
  by_cases h : sideErr l side = 0
  · simp only [if_pos h]
    by_cases h0 : l.length = 0
    · simp only [if_pos h0]
      refine Ev.bind (dayErr_ev l side) ?_
      simp only [if_pos h, if_pos h0]
      exact Ev.now _
    · simp only [if_neg h0]
      obtain ⟨h1, hs, _⟩ := sideErr_zero h
      have hl := checkO_len h1
      obtain ⟨x, t1, _, _, _, t5⟩ := shortest_main h1 hs (by omega)
      refine Ev.bind (seqOf_ev l (by omega)) ?_
      refine Ev.bind (side_ev l side hs (by omega)) ?_
      refine Ev.bind (refDelayOf_ev l (byDueL l) (worksOf side l) (by omega) (by omega) (byDueL_len l) (fun y hy => by have := byDueL_range l y hy; rw [worksOf_len, byDueL_len]; omega)) ?_
      rw [t1, t5]
      exact Ev.now _
  · simp only [if_neg h]
    refine Ev.bind (dayErr_ev l side) ?_
    simp only [if_neg h]
    exact Ev.now _
theorem day_loop {l : List S58} {side : Int} (h : checkO l = 0) (hs : side = 0 ∨ side = 1) (x : Int) (hx : x ∈ daysOf l) (hmax : ∀ d ∈ daysOf l, boundB l side d ≤ boundB l side x) (hfirst : ∀ d ∈ daysOf l, d < x → boundB l side d < boundB l side x) :
    ∀ (n : Nat) (day : Int), x - day = n → 0 ≤ day → Ev (fun k => fippleref05_Day.l0 k l side (boundB l side x) day) (x, 0) := by
  obtain ⟨g1, g2, g3⟩ := days_ok h
  obtain ⟨ix, hix, ex⟩ := g2 x hx
  have hxr := due_range h ix hix
  intro n
  induction n with
  | zero =>
    intro day h1 h0
    obtain rfl : day = x := by omega
    refine Ev.step (f := fun k => (fippleref05_BoundOf.f k l side day).bind fun bt248 => (if bt248.2 = true then (if bt248.1 = boundB l side day then (some (day, 0)) else (fippleref05_Day.l0 k l side (boundB l side day) (wrap64 (day + 1)))) else (fippleref05_Day.l0 k l side (boundB l side day) (wrap64 (day + 1))))) (fun k => rfl) ?_
    refine Ev.bind (boundOf_ev l side day h hs h0 (by omega)) ?_
    have hv := (bound_val h hs day h0 (by omega)).2.2 ⟨ix, hix, by omega⟩
    have he : (boundFrom day l (worksOf side l)).1 = boundB l side day := rfl
    simp only [if_pos hv, if_pos he]
    exact Ev.now _
  | succ n ih =>
    intro day h1 h0
    have hw : wrap64 (day + 1) = day + 1 := by unfold wrap64; omega
    refine Ev.step (f := fun k => (fippleref05_BoundOf.f k l side day).bind fun bt248 => (if bt248.2 = true then (if bt248.1 = boundB l side x then (some (day, 0)) else (fippleref05_Day.l0 k l side (boundB l side x) (day + 1))) else (fippleref05_Day.l0 k l side (boundB l side x) (day + 1)))) (fun k => ?_) ?_
    · simp only [fippleref05_Day.l0]
      rw [hw]
    · refine Ev.bind (boundOf_ev l side day h hs h0 (by omega)) ?_
      have hb := bound_val h hs day h0 (by omega)
      have hnext := ih (day + 1) (by omega) (by omega)
      by_cases hv : (boundFrom day l (worksOf side l)).2 = true
      · have hne : ¬ (boundFrom day l (worksOf side l)).1 = boundB l side x := by
          rw [hb.1]
          obtain ⟨i, hi, hid⟩ := hb.2.1 hv
          -- the last of those that are due by then
          have hne : ((byDueL l).filter (isDue l day)) ≠ [] := by
            intro e
            have : i ∈ (byDueL l).filter (isDue l day) := List.mem_filter.2 ⟨hi, decide_eq_true hid⟩
            rw [e] at this; cases this
          have hf := filter_take l day (byDueL l) (byDueL_sorted l)
          obtain ⟨m, hm⟩ : ∃ m, m = ((byDueL l).filter (isDue l day)).length := ⟨_, rfl⟩
          rw [← hm] at hf
          have hm0 : 0 < m := by rw [hm]; exact List.length_pos_iff.2 hne
          have hml : m ≤ (byDueL l).length := by rw [hm]; exact List.length_filter_le _ _
          have hlast : (byDueL l)[m - 1] ∈ (byDueL l).filter (isDue l day) := by
            rw [hf, List.mem_iff_getElem]
            exact ⟨m - 1, by simp; omega, by rw [List.getElem_take]⟩
          have hld : dueOf l (byDueL l)[m - 1] ≤ day := of_decide_eq_true (List.mem_filter.1 hlast).2
          have hlr := due_range h _ (List.getElem_mem (show m - 1 < (byDueL l).length by omega))
          have hsame : (byDueL l).filter (isDue l (dueOf l (byDueL l)[m - 1])) = (byDueL l).filter (isDue l day) := by
            apply List.filter_congr
            intro y hy
            unfold isDue
            rw [decide_eq_decide]
            constructor
            · intro h; omega
            · intro hyd
              have hym : y ∈ (byDueL l).filter (isDue l day) := List.mem_filter.2 ⟨hy, decide_eq_true hyd⟩
              rw [hf] at hym
              obtain ⟨q, hq, rfl⟩ := List.getElem_of_mem hym
              have hq' : q < m := by simp at hq; omega
              rw [List.getElem_take]
              by_cases hqm : q = m - 1
              · subst hqm; exact Int.le_refl _
              · exact List.pairwise_iff_getElem.1 (byDueL_sorted l) q (m - 1) (by omega) (by omega) (by omega)
          have hdl := hfirst _ (g1 _ (List.getElem_mem (show m - 1 < (byDueL l).length by omega))) (by omega)
          rw [boundB_eq h hs _ hlr.1 (by omega)] at hdl
          unfold Bd at hdl ⊢
          rw [hsame] at hdl
          omega
        simp only [if_pos hv, if_neg hne]
        exact hnext
      · simp only [if_neg hv]
        exact hnext
theorem refDay_ev (l : List S58) (side : Int) : Ev (fun k => fippleref05_Day.f k l side) ((tightR l side).1, (tightR l side).2.2) := by
  unfold fippleref05_Day.f
  refine Ev.bind (refShortest_ev l side) ?_
  unfold tightR
  by_cases h : sideErr l side = 0
  · simp only [if_pos h]
    by_cases h0 : l.length = 0
    · simp only [if_pos h0]
      exact Ev.now _
    · simp only [if_neg h0]
      obtain ⟨h1, hs, _⟩ := sideErr_zero h
      obtain ⟨x, t1, t2, t3, t4, t5⟩ := shortest_main h1 hs (by omega)
      obtain ⟨i, hi, ei⟩ := (days_ok h1).2.1 x t2
      have hr := due_range h1 i hi
      rw [t1]
      simp only [if_true]
      exact day_loop h1 hs x t2 t3 t4 x.toNat 0 (by omega) (by omega)
  · simp only [if_neg h]
    exact Ev.now _
end Go.Proofs.Ytmlahfidnfdhbaa.Pr
