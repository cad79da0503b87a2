import Derived.Test.YtpbemjdaanlaoaaH3
import Derived.Test.YtpbemjdaanlaoaaN13
import Derived.Test.YtpbemjdaanlaoaaN6
set_option linter.unusedVariables false
set_option linter.unusedSimpArgs false
namespace Go.Proofs.Ytpbemjdaanlaoaa.Pr
open Go.RowKit Go.Proofs.YtpbemjdaanlaoaaW.PrintWords Go.Proofs.YtpbemjdaanlaoaaW.PrintLast Go.Proofs.YtpbemjdaanlaoaaW.PrintMore
set_option maxRecDepth 100000

theorem seqScope (fl : List Int) (hf : fl.length ≤ 1000) (b : Bool) :
    ∀ d j, fl.length - j = d → j ≤ fl.length → inB 99 fl j b → Ev (fun k => fippleref08_CheckSequence.l0 k fl (j : Int)) (if b = false then 3 else 0) := by
  intro d
  induction d with
  | zero =>
    intro j h1 h2 hb
    obtain rfl : b = true := hb.mpr fun i h3 h4 => by omega
    refine Ev.step (f := fun k => some (0 : Int)) (fun k => ?_) (Ev.now _)
    simp only [fippleref08_CheckSequence.l0]
    rw [if_neg (by omega)]
  | succ d ih =>
    intro j h1 h2 hb
    have hj : j < fl.length := by omega
    by_cases hx : 1 ≤ rd fl (j : Int) ∧ rd fl (j : Int) ≤ 99
    · refine Ev.step (f := fun k => fippleref08_CheckSequence.l0 k fl ((j + 1 : Nat) : Int)) (fun k => ?_) (ih (j + 1) (by omega) (by omega) (inB_next hb hx))
      simp only [fippleref08_CheckSequence.l0]
      rw [if_pos (by omega), if_pos (by omega), if_neg (by omega), if_neg (by omega), w1_ j (by omega)]
    · obtain rfl := inB_no hb hj hx
      refine Ev.step (f := fun _ => some (3 : Int)) (fun k => ?_) (Ev.now _)
      simp only [fippleref08_CheckSequence.l0]
      rw [if_pos (by omega), if_pos (by omega)]
      by_cases h0 : rd fl (j : Int) < 1
      · rw [if_pos h0]
      · rw [if_neg h0, if_pos (by omega)]
theorem refSeq_ev (l : List Int) : Ev (fun k => fippleref08_CheckSequence.f k l) (seqC l) := by
  unfold seqC
  by_cases h12 : 12 < l.length
  · refine Ev.congr (f := fun _ => some (6 : Int)) (fun k => if_pos (by omega)) ?_
    rw [if_pos h12]
    exact Ev.now _
  · refine Ev.congr (f := fun k => fippleref08_CheckSequence.l0 k l ((0 : Nat) : Int)) (fun k => if_neg (by omega)) ?_
    rw [if_neg h12]
    exact seqScope l (by omega) _ l.length 0 rfl (by omega) (inB_within 99 l)
theorem rackSeq_eq (l : List Int) : rack_CheckSequence.f l = some (seqC l) := by
  unfold rack_CheckSequence.f seqC rack_within.f
  by_cases h12 : 12 < l.length
  · rw [if_pos (by omega), if_pos h12]
  · rw [if_neg (by omega), if_neg h12]
    show (if within_ 1 99 l = true then some (0 : Int) else some 3) = _
    cases within_ 1 99 l <;> rfl
theorem refBuild_ev (l : List Int) : Ev (fun k => fippleref08_Build.f k l) (bldR l) := by
  refine Ev.bind (refSeq_ev l) ?_
  unfold bldR
  by_cases h0 : seqC l = 0
  · rw [if_neg (by omega)]
    have hk := seqC_ok h0
    refine Ev.congr (f := fun _ => some ((bS l l.length).1, (bS l l.length).2, (0 : Int))) (fun k => ?_) (Ev.now _)
    rw [if_pos h0, fippleref08_BuildOf.f, if_pos ⟨hk.1, hk.2⟩]
    rfl
  · rw [if_pos h0]
    refine Ev.congr (f := fun k => (fippleref08_CheckSequence.f k l).bind fun t216 => (some (([] : List (List Int)), ([] : List (List Int)), t216))) (fun k => by rw [if_neg h0]) ?_
    exact Ev.bind (refSeq_ev l) (Ev.now _)

/-- Same of two lists of numbers -/
theorem sameD_loop (a b : List Int) (hs : a.length ≤ 1000) (hab : a.length = b.length) (r : Bool) : ∀ d j, a.length - j = d → j ≤ a.length → (r = true ↔ ∀ i : Nat, j ≤ i → i < a.length → rd a (i : Int) = rd b (i : Int)) → Ev (fun k => fippleref08_Same.l0 k a b (j : Int)) r := by
  intro d
  induction d with
  | zero =>
    intro j h1 h2 hr
    obtain rfl : r = true := hr.mpr fun i h3 h4 => by omega
    refine Ev.step (f := fun _ => some true) (fun k => ?_) (Ev.now _)
    simp only [fippleref08_Same.l0]
    rw [if_neg (by omega)]
  | succ d ih =>
    intro j h1 h2 hr
    by_cases he : rd a (j : Int) = rd b (j : Int)
    · refine Ev.step (f := fun k => fippleref08_Same.l0 k a b ((j + 1 : Nat) : Int)) (fun k => ?_) (ih (j + 1) (by omega) (by omega) (hr.trans ⟨fun h i h3 => h i (by omega), fun h i h3 h4 => ?_⟩))
      · simp only [fippleref08_Same.l0]
        rw [if_pos (by omega), if_pos (by omega), if_pos (by omega), if_pos he, w1_ j (by omega)]
      · by_cases hij : i = j
        · subst hij; exact he
        · exact h i (by omega) h4
    · obtain rfl : r = false := by
        cases hrr : r with
        | false => rfl
        | true => exact absurd (hr.mp hrr j (Nat.le_refl _) (by omega)) he
      refine Ev.step (f := fun _ => some false) (fun k => ?_) (Ev.now _)
      simp only [fippleref08_Same.l0]
      rw [if_pos (by omega), if_pos (by omega), if_pos (by omega), if_neg he]
theorem sameD_ev (a b : List Int) (hs : a.length ≤ 1000) (r : Bool) (hr : r = true ↔ a = b) : Ev (fun k => fippleref08_Same.f k a b) r := by
  by_cases hab : a.length = b.length
  · refine Ev.congr (f := fun k => fippleref08_Same.l0 k a b ((0 : Nat) : Int)) (fun k => if_pos (by omega)) (sameD_loop a b hs hab r a.length 0 rfl (by omega) (hr.trans ⟨fun h i _ _ => by rw [h], fun h => ?_⟩))
    refine List.ext_getElem hab fun i h1 h2 => ?_
    have := h i (by omega) h1
    rw [rd_get a i h1, rd_get b i h2] at this
    exact this
  · obtain rfl : r = false := by
      cases hrr : r with
      | false => rfl
      | true => exact absurd (congrArg List.length (hr.mp hrr)) hab
    refine Ev.congr (f := fun _ => some false) (fun k => if_neg (by omega)) (Ev.now _)
end Go.Proofs.Ytpbemjdaanlaoaa.Pr
