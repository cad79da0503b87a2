import Derived.Test.YtpbemjdaanlaoaaK1
set_option linter.unusedVariables false
set_option linter.unusedSimpArgs false
namespace Go.Proofs.Ytpbemjdaanlaoaa.Pr
open Go.RowKit Go.Proofs.YtpbemjdaanlaoaaW.PrintWords Go.Proofs.YtpbemjdaanlaoaaW.PrintLast Go.Proofs.YtpbemjdaanlaoaaW.PrintMore
set_option maxRecDepth 100000

def lens (l : List (List Int)) : List Int := l.map fun r => (r.length : Int)
theorem lens_len (l : List (List Int)) : (lens l).length = l.length := by simp [lens]
theorem shape_loop (l : List (List Int)) (hl : l.length ≤ 1000) : ∀ d j, l.length - j = d → j ≤ l.length → Ev (fun k => fippleref08_Shape.l0 k l ((lens l).take j) (j : Int)) (lens l) := by
  intro d
  induction d with
  | zero =>
    intro j h1 h2
    obtain rfl : j = l.length := by omega
    refine Ev.step (f := fun _ => some (lens l)) (fun k => ?_) (Ev.now _)
    simp only [fippleref08_Shape.l0]
    rw [if_neg (by omega), List.take_of_length_le (by rw [lens_len]; exact Nat.le_refl _)]
  | succ d ih =>
    intro j h1 h2
    have hj : j < l.length := by omega
    refine Ev.step (f := fun k => fippleref08_Shape.l0 k l ((lens l).take (j + 1)) ((j + 1 : Nat) : Int)) (fun k => ?_) (ih (j + 1) (by omega) (by omega))
    have hlt : ((lens l).take j).length < 17592186044416 := by rw [List.length_take, lens_len]; omega
    have he : (lens l).take (j + 1) = (lens l).take j ++ [((rd_L1 l (j : Int)).length : Int)] := by
      rw [List.take_succ_eq_append_getElem (by rw [lens_len]; exact hj), rdL_get l j hj]
      simp [lens]
    simp only [fippleref08_Shape.l0]
    rw [if_pos (by omega), if_pos (by omega), if_pos hlt, w1_ j (by omega), he]
theorem shape_ev (l : List (List Int)) (hl : l.length ≤ 1000) : Ev (fun k => fippleref08_Shape.f k l) (lens l) := by
  have := shape_loop l hl l.length 0 (by omega) (by omega)
  exact this
theorem lenAt_lens (l : List (List Int)) (j : Nat) : lenAt l l.length j = ((lens l)[j]?).getD 0 := by
  unfold lenAt lens
  by_cases h : j < l.length
  · rw [if_pos h, rdL_get l j h]
    simp [List.getElem?_eq_getElem h]
  · rw [if_neg h]
    simp [List.getElem?_eq_none (Nat.le_of_not_lt h)]
theorem lens_iff {R O : List (List Int)} (hR : R.length ≤ 12) (hO : O.length ≤ 12) (hr : ∀ k, k < R.length → 0 < (rd_L1 R (k : Int)).length) (ho : ∀ k, k < O.length → 0 < (rd_L1 O (k : Int)).length) : sameSh O R = true ↔ lens R = lens O := by
  unfold sameSh
  simp only [List.all_eq_true, List.mem_range, decide_eq_true_eq]
  constructor
  · intro h
    have hlen : R.length = O.length := by
      rcases Nat.lt_trichotomy R.length O.length with h1 | h1 | h1
      · have := h R.length (by omega)
        have h2 := ho R.length h1
        unfold lenAt at this
        rw [if_pos h1, if_neg (by omega)] at this
        omega
      · exact h1
      · have := h O.length (by omega)
        have h2 := hr O.length h1
        unfold lenAt at this
        rw [if_pos h1, if_neg (by omega)] at this
        omega
    refine List.ext_getElem (by rw [lens_len, lens_len]; exact hlen) fun i h1 h2 => ?_
    rw [lens_len] at h1 h2
    have := h i (by omega)
    unfold lenAt at this
    rw [if_pos h2, if_pos h1, rdL_get O i h2, rdL_get R i h1] at this
    simp only [lens, List.getElem_map]
    omega
  · intro h j hj
    rw [lenAt_lens, lenAt_lens, h]
theorem orC_ok {rows : List (List Int)} (h : orC rows = 0) : rows.flatten.length ≤ 12 ∧ risesB rows 1 = true := ⟨(Od.of h).le, (Od.of h).ris⟩
theorem refRead_ev (R O : List (List Int)) (h1 : R.length ≤ 20) (h2 : ∀ r ∈ R, r.length ≤ 20) (h3 : O.length ≤ 20) (h4 : ∀ r ∈ O, r.length ≤ 20) : Ev (fun k => fippleref08_Read.f k R O) (readR R O) := by
  refine Ev.bind (refRack_ev R h1 h2) ?_
  unfold readR
  by_cases hR : rkC R = 0
  · rw [if_neg (by omega)]
    refine Ev.congr (f := fun k => (fippleref08_CheckOrder.f k O).bind fun t223 => (if t223 = 0 then ((fippleref08_Shape.f k R).bind fun t225 => ((fippleref08_Shape.f k O).bind fun t228 => ((fippleref08_Same.f k t225 t228).bind fun t231 => (if t231 = true then ((fippleref08_ReadOf.f R O).bind fun t232 => (some (t232, 0))) else (some (([] : List Int), 15)))))) else ((fippleref08_CheckOrder.f k O).bind fun t224 => (some (([] : List Int), t224))))) (fun k => by rw [if_pos hR]) ?_
    refine Ev.bind (refOrder_ev O h3 h4) ?_
    by_cases hO : orC O = 0
    · rw [if_neg (by omega)]
      refine Ev.congr (f := fun k => (fippleref08_Shape.f k R).bind fun t225 => ((fippleref08_Shape.f k O).bind fun t228 => ((fippleref08_Same.f k t225 t228).bind fun t231 => (if t231 = true then ((fippleref08_ReadOf.f R O).bind fun t232 => (some (t232, 0))) else (some (([] : List Int), 15)))))) (fun k => by rw [if_pos hO]) ?_
      refine Ev.bind (shape_ev R (by omega)) ?_
      refine Ev.bind (shape_ev O (by omega)) ?_
      have kR := rkC_ok hR
      have kO := orC_ok hO
      have lR := rises_len kR.2.2
      have lO := rises_len kO.2
      refine Ev.bind (sameD_ev (lens R) (lens O) (by rw [lens_len]; omega) (sameSh O R) (lens_iff (by omega) (by omega) (fun k hk => rows_ne kR.2.2 hk) (fun k hk => rows_ne kO.2 hk))) ?_
      cases hS : sameSh O R with
      | false =>
        rw [if_pos rfl]
        exact Ev.now _
      | true =>
        rw [if_neg (show ¬ (true = false) by decide)]
        refine Ev.congr (f := fun _ => some ((rdS O R O.flatten.length O.flatten.length).2, (0 : Int))) (fun k => ?_) (Ev.now _)
        rw [if_pos rfl, fippleref08_ReadOf.f, if_pos ⟨hR, hO, hS⟩]
        rfl
    · rw [if_pos hO]
      refine Ev.congr (f := fun k => (fippleref08_CheckOrder.f k O).bind fun t224 => (some (([] : List Int), t224))) (fun k => by rw [if_neg hO]) ?_
      exact Ev.bind (refOrder_ev O h3 h4) (Ev.now _)
  · rw [if_pos hR]
    refine Ev.congr (f := fun k => (fippleref08_CheckRack.f k R).bind fun t222 => (some (([] : List Int), t222))) (fun k => by rw [if_neg hR]) ?_
    exact Ev.bind (refRack_ev R h1 h2) (Ev.now _)
end Go.Proofs.Ytpbemjdaanlaoaa.Pr
