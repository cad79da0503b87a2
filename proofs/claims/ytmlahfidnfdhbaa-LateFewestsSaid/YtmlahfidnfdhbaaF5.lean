import Derived.Test.YtmlahfidnfdhbaaF3
set_option linter.unusedSimpArgs false
set_option linter.unusedVariables false
namespace Go.Proofs.Ytmlahfidnfdhbaa.Pr
open Go.RowKit Go.Proofs.YtmlahfidnfdhbaaW.PrintWords Go.Proofs.YtmlahfidnfdhbaaW.PrintLast Go.Proofs.YtmlahfidnfdhbaaW.PrintMore

theorem checkSide_ev (l : List S58) (side : Int) : Ev (fun k => fippleref05_CheckSide.f k l side) (sideErr l side) := by
  unfold fippleref05_CheckSide.f sideErr
  refine Ev.bind (refCO_ev l) ?_
  by_cases h : checkO l = 0
  · simp only [if_pos h]
    have hw := within_one 0 1 side
    by_cases h0 : side = 0
    · simp only [if_pos h0]
      rw [if_pos (by rw [hw]; omega)]; exact Ev.now _
    · simp only [if_neg h0]
      by_cases h1 : side = 1
      · simp only [if_pos h1]
        rw [if_pos (by rw [hw]; omega)]; exact Ev.now _
      · simp only [if_neg h1]
        rw [if_neg (by rw [hw]; omega)]; exact Ev.now _
  · simp only [if_neg h]
    refine Ev.bind (refCO_ev l) ?_
    exact Ev.now _

/-- What is worked by a day, and whether anything is due by then: no number wraps. -/
theorem work_bounds {l : List S58} {side : Int} (h : checkO l = 0) (hs : side = 0 ∨ side = 1) (i : Nat) (hi : i < l.length) : 1 ≤ rd (worksOf side l) (i : Nat) ∧ rd (worksOf side l) (i : Nat) ≤ 100 := by
  have hb := checkO_all h (rd_T58 l (i : Nat)) (by rw [rdT_get l i hi]; exact List.getElem_mem hi)
  rw [rd_works side l i hi]
  rcases hs with rfl | rfl
  · simp only [workOf, if_true]; omega
  · simp only [workOf, if_neg (show ¬ (1 : Int) = 0 by omega)]; omega
def boundVal (l : List S58) (side day : Int) : Int × Int :=
  if sideErr l side = 0 then (if within_ 0 2000 [day] = true then (if (boundFrom day l (worksOf side l)).2 = true then ((boundFrom day l (worksOf side l)).1, 0) else (0, 5)) else (0, 2)) else (0, sideErr l side)
end Go.Proofs.Ytmlahfidnfdhbaa.Pr
