import Derived.Test.YtpbemjdaanlaoaaH3
import Derived.Test.YtpbemjdaanlaoaaN1
import Derived.Test.YtpbemjdaanlaoaaLP
set_option linter.unusedVariables false
set_option linter.unusedSimpArgs false
namespace Go.Proofs.Ytpbemjdaanlaoaa.Pr
open Go.RowKit Go.Proofs.YtpbemjdaanlaoaaW.PrintWords Go.Proofs.YtpbemjdaanlaoaaW.PrintLast Go.Proofs.YtpbemjdaanlaoaaW.PrintMore
set_option maxRecDepth 100000

theorem within1 (lo hi a : Int) : within_ lo hi [a] = true ↔ lo ≤ a ∧ a ≤ hi := by
  simp [within_]
theorem within1_no (lo hi a : Int) : within_ lo hi [a] = false ↔ ¬ (lo ≤ a ∧ a ≤ hi) := by
  rw [← within1, Bool.not_eq_true]
theorem lenOk_of {l : List (List Int)} (hr : ∀ r ∈ l, r.length ≤ 20) : lenOk l = true := by
  simp only [lenOk, List.all_eq_true, decide_eq_true_eq]
  intro r h
  have := hr r h
  omega
theorem refPut_ev (l : List (List Int)) (a : Int) (hl : l.length ≤ 20) (hr : ∀ r ∈ l, r.length ≤ 20) : Ev (fun k => fippleref08_Put.f k l a) (putR l a) := by
  have hfl := flat_small hr
  refine Ev.bind (refRack_ev l hl hr) ?_
  unfold putR
  by_cases h0 : rkC l = 0
  · rw [if_neg (by omega)]
    by_cases hw : within_ 1 99 [a] = true
    · have hw2 := (within1 1 99 a).mp hw
      rw [if_neg (by rw [hw]; decide)]
      refine Ev.congr (f := fun k => fippleref08_Put.j0 k l a false) (fun k => by rw [if_pos h0, if_neg (by omega), decide_eq_false (by omega)]) ?_
      refine Ev.step (f := fun k => (fippleref08_all.f k l).bind fun t162 => (if (t162.length : Int) = 12 then (some (([] : List (List Int)), 0, 10)) else ((fippleref08_PutOf.f l a).bind fun bt165 => (some (bt165.1, bt165.2, 0))))) (fun k => by simp only [fippleref08_Put.j0]; rw [if_neg (by decide)]) ?_
      refine Ev.bind (all_ev l (by omega) (by omega)) ?_
      by_cases h12 : l.flatten.length = 12
      · rw [if_pos h12]
        refine Ev.congr (f := fun _ => some (([] : List (List Int)), 0, 10)) (fun k => by rw [if_pos (by omega)]) (Ev.now _)
      · rw [if_neg h12]
        refine Ev.congr (f := fun _ => some ((putL l a).1, (putL l a).2.1, 0)) (fun k => ?_) (Ev.now _)
        rw [if_neg (by omega), fippleref08_PutOf.f, if_pos ⟨by omega, lenOk_of hr⟩]
        rfl
    · have hw1 : within_ 1 99 [a] = false := by simpa using hw
      have hw2 := (within1_no 1 99 a).mp hw1
      rw [if_pos hw1]
      refine Ev.congr (f := fun k => fippleref08_Put.j0 k l a true) (fun k => ?_) ?_
      · rw [if_pos h0]
        by_cases h1 : a < 1
        · rw [if_pos h1]
        · rw [if_neg h1, decide_eq_true (by omega)]
      · refine Ev.step (f := fun k => some (([] : List (List Int)), 0, 3)) (fun k => by simp only [fippleref08_Put.j0]; rw [if_pos trivial]) (Ev.now _)
  · rw [if_pos h0]
    refine Ev.congr (f := fun k => (fippleref08_CheckRack.f k l).bind fun t161 => (some (([] : List (List Int)), 0, t161))) (fun k => by rw [if_neg h0]) ?_
    exact Ev.bind (refRack_ev l hl hr) (Ev.now _)

theorem canTake (l : List (List Int)) (a : Int) (hl : l.length ≤ 20) (hr : ∀ r ∈ l, r.length ≤ 20) (h0 : 0 ≤ a) (h1 : a < l.length) (hk : risesB l 0 = true) : fippleref08_CanTake.f l a = some (!noTake l a) ∧ (noTake l a = false → cornB l a.toNat = true) := by
  obtain ⟨n, rfl⟩ := Int.eq_ofNat_of_zero_le h0
  have hw : wrap64 ((n : Int) + 1) = (n : Int) + 1 := by unfold wrap64; omega
  have hrk := Rk.of hk
  unfold fippleref08_CanTake.f noTake cornB
  rw [hw]
  rw [show ((n : Int)).toNat = n by omega]
  by_cases hn : n + 1 = l.length
  · rw [if_pos (by omega), decide_eq_false (show ¬ ((n : Int) + 1 < (l.length : Int)) by omega)]
    refine ⟨rfl, fun _ => ?_⟩
    rw [decide_eq_true (show n < l.length by omega), decide_eq_false (show ¬ (n + 1 < l.length) by omega)]
    rfl
  · have hs := hrk.sh n (by omega)
    unfold Ln at hs
    rw [show ((n + 1 : Nat) : Int) = (n : Int) + 1 by omega] at hs
    rw [if_neg (by omega), if_pos (by omega), if_pos (by omega), if_pos (by omega), if_pos (by omega), decide_eq_true (show (n : Int) + 1 < (l.length : Int) by omega), Bool.true_and]
    unfold Ln
    rw [show ((n + 1 : Nat) : Int) = (n : Int) + 1 by omega]
    by_cases he : (rd_L1 l (n : Int)).length = (rd_L1 l ((n : Int) + 1)).length
    · rw [decide_eq_true he, decide_eq_false (by omega)]
      exact ⟨rfl, fun h => by cases h⟩
    · rw [decide_eq_false he, decide_eq_true (by omega)]
      refine ⟨rfl, fun _ => ?_⟩
      rw [decide_eq_true (show n < l.length by omega), decide_eq_true (show (rd_L1 l ((n : Int) + 1)).length < (rd_L1 l (n : Int)).length by omega)]
      simp
theorem refTake_ev (l : List (List Int)) (a : Int) (hl : l.length ≤ 20) (hr : ∀ r ∈ l, r.length ≤ 20) : Ev (fun k => fippleref08_Take.f k l a) (takeR l a) := by
  have hfl := flat_small hr
  refine Ev.bind (refRack_ev l hl hr) ?_
  unfold takeR
  by_cases h0 : rkC l = 0
  · rw [if_neg (by omega)]
    by_cases hw : within_ 0 ((l.length : Int) - 1) [a] = true
    · have hw2 := (within1 0 ((l.length : Int) - 1) a).mp hw
      have hk := (rkC_ok h0).2.2
      obtain ⟨hc1, hc2⟩ := canTake l a hl hr hw2.1 (by omega) hk
      rw [if_neg (by rw [hw]; decide)]
      refine Ev.congr (f := fun k => fippleref08_Take.j0 k l a false) (fun k => by rw [if_pos h0, if_neg (by omega), decide_eq_false (by omega)]) ?_
      refine Ev.step (f := fun _ => (some (!noTake l a)).bind fun t173 => (if t173 = true then ((fippleref08_TakeOf.f l a).bind fun bt174 => (some (bt174.1, bt174.2, 0))) else (some (([] : List (List Int)), 0, 22)))) (fun k => by simp only [fippleref08_Take.j0]; rw [if_neg (by decide), hc1]) ?_
      cases hn : noTake l a with
      | true =>
        rw [if_pos rfl]
        exact Ev.now _
      | false =>
        rw [if_neg (by decide)]
        refine Ev.congr (f := fun _ => some ((takeL l a.toNat).1, (takeL l a.toNat).2, 0)) (fun k => ?_) (Ev.now _)
        show (if (!false) = true then ((fippleref08_TakeOf.f l a).bind fun bt174 => (some (bt174.1, bt174.2, (0 : Int)))) else (some (([] : List (List Int)), 0, 22))) = _
        rw [if_pos (by decide), fippleref08_TakeOf.f, if_pos ⟨⟨by omega, lenOk_of hr⟩, hk, hw2.1, hc2 hn⟩]
        rfl
    · have hw1 : within_ 0 ((l.length : Int) - 1) [a] = false := by simpa using hw
      have hw2 := (within1_no 0 ((l.length : Int) - 1) a).mp hw1
      rw [if_pos hw1]
      refine Ev.congr (f := fun k => fippleref08_Take.j0 k l a true) (fun k => ?_) ?_
      · rw [if_pos h0]
        by_cases h1 : a < 0
        · rw [if_pos h1]
        · rw [if_neg h1, decide_eq_true (by omega)]
      · refine Ev.step (f := fun k => some (([] : List (List Int)), 0, 2)) (fun k => by simp only [fippleref08_Take.j0]; rw [if_pos trivial]) (Ev.now _)
  · rw [if_pos h0]
    refine Ev.congr (f := fun k => (fippleref08_CheckRack.f k l).bind fun t161 => (some (([] : List (List Int)), 0, t161))) (fun k => by rw [if_neg h0]) ?_
    exact Ev.bind (refRack_ev l hl hr) (Ev.now _)
end Go.Proofs.Ytpbemjdaanlaoaa.Pr
