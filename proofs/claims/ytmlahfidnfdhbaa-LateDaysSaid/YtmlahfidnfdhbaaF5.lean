import Derived.Test.YtmlahfidnfdhbaaF3
import Derived.Test.YtmlahfidnfdhbaaRG
set_option linter.unusedSimpArgs false
set_option linter.unusedVariables false
namespace Go.Proofs.Ytmlahfidnfdhbaa.Pr
open Go.RowKit Go.Proofs.YtmlahfidnfdhbaaW.PrintWords Go.Proofs.YtmlahfidnfdhbaaW.PrintLast Go.Proofs.YtmlahfidnfdhbaaW.PrintMore

theorem checkSide_ev (l : List S58) (side : Int) : Ev (fun k => fippleref05_CheckSide.f k l side) (sideErr l side) := by
  unfold fippleref05_CheckSide.f sideErr
  refine Ev.bind (refCO_ev l) ?_
  by_cases h : checkO l = 0
  · simp only [if_pos h]
    have hw := within_one 0 1 side
    by_cases h0 : side = 0
    · simp only [if_pos h0]
      rw [if_pos (by rw [hw]; omega)]; exact Ev.now _
    · simp only [if_neg h0]
      by_cases h1 : side = 1
      · simp only [if_pos h1]
        rw [if_pos (by rw [hw]; omega)]; exact Ev.now _
      · simp only [if_neg h1]
        rw [if_neg (by rw [hw]; omega)]; exact Ev.now _
  · simp only [if_neg h]
    refine Ev.bind (refCO_ev l) ?_
    exact Ev.now _

/-- What is worked by a day, and whether anything is due by then: no number wraps. -/
theorem work_bounds {l : List S58} {side : Int} (h : checkO l = 0) (hs : side = 0 ∨ side = 1) (i : Nat) (hi : i < l.length) : 1 ≤ rd (worksOf side l) (i : Nat) ∧ rd (worksOf side l) (i : Nat) ≤ 100 := by
  have hb := checkO_all h (rd_T58 l (i : Nat)) (by rw [rdT_get l i hi]; exact List.getElem_mem hi)
  rw [rd_works side l i hi]
  rcases hs with rfl | rfl
  · simp only [workOf, if_true]; omega
  · simp only [workOf, if_neg (show ¬ (1 : Int) = 0 by omega)]; omega
theorem boundOf_loop (l : List S58) (ws : List Int) (day : Int) (hl : l.length ≤ 20) (hw : ws.length = l.length) (hd0 : 0 ≤ day) (hd1 : day ≤ 1000000) (hb : ∀ i : Nat, i < l.length → 1 ≤ rd ws (i : Nat) ∧ rd ws (i : Nat) ≤ 100) : ∀ d j (q : Int × Bool), l.length - j = d → j ≤ l.length → -day ≤ q.1 → q.1 ≤ 100 * j →
    Ev (fun k => fippleref05_BoundOf.l0 k l day ws (q.1 + day) q.2 (j : Int)) (((l.drop j).zip (ws.drop j)).foldl (boundStep day) q) := by
  intro d
  induction d with
  | zero =>
    intro j q h1 h2 h3 h4
    obtain rfl : j = l.length := by omega
    refine Ev.step (f := fun _ => some (wrap64 (q.1 + day - day), q.2)) (fun k => ?_) ?_
    · simp only [fippleref05_BoundOf.l0]
      rw [if_neg (by omega)]
    · rw [List.drop_length]
      have : wrap64 (q.1 + day - day) = q.1 := by unfold wrap64; omega
      rw [this]
      exact Ev.now _
  | succ d ih =>
    intro j q h1 h2 h3 h4
    have hj : j < l.length := by omega
    have e := rdT_get l j hj
    have hbj := hb j hj
    have hd : l.drop j = l[j] :: l.drop (j + 1) := List.drop_eq_getElem_cons hj
    have hd2 : ws.drop j = ws[j]'(by omega) :: ws.drop (j + 1) := List.drop_eq_getElem_cons (by omega)
    have ew := rd_get ws j (by omega)
    rw [hd, hd2, List.zip_cons_cons, List.foldl_cons]
    refine Ev.step (f := fun k => fippleref05_BoundOf.l0 k l day ws ((boundStep day q (l[j], ws[j]'(by omega))).1 + day) (boundStep day q (l[j], ws[j]'(by omega))).2 ((j + 1 : Nat) : Int)) (fun k => ?_) ?_
    · simp only [fippleref05_BoundOf.l0]
      rw [if_pos (by omega), if_pos (by omega), w1 j (by omega), e]
      unfold boundStep
      by_cases h5 : l[j].f1 ≤ day
      · rw [if_pos h5, if_pos (by omega)]
        simp only [if_pos h5]
        rw [← ew]
        congr 1
        unfold wrap64; omega
      · rw [if_neg h5]
        simp only [if_neg h5]
    · refine ih (j + 1) _ (by omega) (by omega) ?_ ?_
      · unfold boundStep
        by_cases h5 : l[j].f1 ≤ day
        · simp only [if_pos h5]; rw [← ew]; unfold wrap64; omega
        · simp only [if_neg h5]; omega
      · unfold boundStep
        by_cases h5 : l[j].f1 ≤ day
        · simp only [if_pos h5]; rw [← ew]; unfold wrap64; omega
        · simp only [if_neg h5]; omega
theorem boundOf_ev (l : List S58) (side day : Int) (h : checkO l = 0) (hs : side = 0 ∨ side = 1) (hd0 : 0 ≤ day) (hd1 : day ≤ 1000000) : Ev (fun k => fippleref05_BoundOf.f k l side day) (boundFrom day l (worksOf side l)) := by
  have hl := checkO_len h
  unfold fippleref05_BoundOf.f
  refine Ev.bind (side_ev l side hs (by omega)) ?_
  have e : wrap64 (-day) = -day := by unfold wrap64; omega
  have := boundOf_loop l (worksOf side l) day (by omega) (worksOf_len _ _) hd0 hd1 (fun i hi => work_bounds h hs i hi) l.length 0 (-day, false) rfl (by omega) (by simp) (by simp; omega)
  unfold boundFrom
  rw [e]
  simp only [List.drop_zero, Int.natCast_zero, show -day + day = 0 by omega] at this
  exact this
def boundVal (l : List S58) (side day : Int) : Int × Int :=
  if sideErr l side = 0 then (if within_ 0 2000 [day] = true then (if (boundFrom day l (worksOf side l)).2 = true then ((boundFrom day l (worksOf side l)).1, 0) else (0, 5)) else (0, 2)) else (0, sideErr l side)
theorem refBound_ev (l : List S58) (side day : Int) : Ev (fun k => fippleref05_Bound.f k l side day) (boundVal l side day) := by
  unfold fippleref05_Bound.f boundVal
  refine Ev.bind (checkSide_ev l side) ?_
  by_cases h : sideErr l side = 0
  · simp only [if_pos h]
    obtain ⟨h1, hs, _⟩ := sideErr_zero h
    have hw := within_one 0 2000 day
    by_cases hd0 : day < 0
    · simp only [if_pos hd0]
      rw [if_neg (by rw [hw]; omega)]
      refine Ev.step (f := fun _ => some (0, 2)) (fun k => ?_) (Ev.now _)
      simp [fippleref05_Bound.j0]
    · simp only [if_neg hd0]
      by_cases hd1 : day > 2000
      · rw [if_neg (by rw [hw]; omega)]
        refine Ev.step (f := fun _ => some (0, 2)) (fun k => ?_) (Ev.now _)
        simp [fippleref05_Bound.j0, hd1]
      · rw [if_pos (by rw [hw]; omega)]
        have hb := boundOf_ev l side day h1 hs (by omega) (by omega)
        refine Ev.step (f := fun k => (fippleref05_BoundOf.f k l side day).bind fun bt => (if bt.2 = true then (some (bt.1, 0)) else (some (0, 5)))) (fun k => ?_) ?_
        · simp [fippleref05_Bound.j0, hd1]
        · refine Ev.bind hb ?_
          by_cases h2 : (boundFrom day l (worksOf side l)).2 = true
          · simp only [if_pos h2]; exact Ev.now _
          · simp only [if_neg h2]; exact Ev.now _
  · simp only [if_neg h]
    refine Ev.bind (checkSide_ev l side) ?_
    exact Ev.now _
end Go.Proofs.Ytmlahfidnfdhbaa.Pr
