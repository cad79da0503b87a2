import Derived.Test.YtmlahfidnfdhbaaF3
import Derived.Test.YtmlahfidnfdhbaaRF
set_option linter.unusedSimpArgs false
set_option linter.unusedVariables false
namespace Go.Proofs.Ytmlahfidnfdhbaa.Pr
open Go.RowKit Go.Proofs.YtmlahfidnfdhbaaW.PrintWords Go.Proofs.YtmlahfidnfdhbaaW.PrintLast Go.Proofs.YtmlahfidnfdhbaaW.PrintMore

theorem refSeq_ev (l : List S58) : Ev (fun k => fippleref05_Sequence.f k l) (if checkO l = 0 then (byDueL l, 0) else ([], checkO l)) := by
  unfold fippleref05_Sequence.f
  refine Ev.bind (refCO_ev l) ?_
  by_cases h : checkO l = 0
  · simp only [if_pos h]
    have := checkO_len h
    refine Ev.bind (seqOf_ev l (by omega)) ?_
    exact Ev.now _
  · simp only [if_neg h]
    refine Ev.bind (refCO_ev l) ?_
    exact Ev.now _
/-! Kinds -/
def kindAt (l : List S58) (early late : List Int) (i : Int) : Int := if (rd_T58 l i).f1 < rd early i then 0 else if rd late i ≤ (rd_T58 l i).f1 then 2 else 1
theorem kinds_loop (l : List S58) (early late : List Int) (hl : l.length ≤ 20) (he : early.length = l.length) (hla : late.length = l.length) : ∀ d j, l.length - j = d → j ≤ l.length →
    Ev (fun k => fippleref05_Kinds.l0 k l early late ((iota j).map (kindAt l early late)) (j : Int)) ((iota l.length).map (kindAt l early late), 0) := by
  intro d
  induction d with
  | zero =>
    intro j h1 h2
    obtain rfl : j = l.length := by omega
    refine Ev.step (f := fun _ => some ((iota l.length).map (kindAt l early late), 0)) (fun k => ?_) (Ev.now _)
    simp only [fippleref05_Kinds.l0]
    rw [if_neg (by omega)]
  | succ d ih =>
    intro j h1 h2
    have hj : j < l.length := by omega
    refine Ev.step (f := fun k => fippleref05_Kinds.l0 k l early late ((iota (j + 1)).map (kindAt l early late)) ((j + 1 : Nat) : Int)) (fun k => ?_) (ih (j + 1) (by omega) (by omega))
    have hlen : ((iota j).map (kindAt l early late)).length < 17592186044416 := by rw [List.length_map, iota_len]; omega
    have hm : (iota (j + 1)).map (kindAt l early late) = (iota j).map (kindAt l early late) ++ [kindAt l early late j] := by rw [iota_succ, List.map_append]; rfl
    simp only [fippleref05_Kinds.l0]
    rw [if_pos (by omega), if_pos (by omega), if_pos (by omega), w1 j (by omega), hm]
    have hk : kindAt l early late j = if (rd_T58 l j).f1 < rd early j then 0 else if rd late j ≤ (rd_T58 l j).f1 then 2 else 1 := rfl
    rw [hk]
    by_cases h3 : rd late j ≤ (rd_T58 l j).f1
    · rw [if_pos h3, if_pos (by omega)]
      by_cases h4 : (rd_T58 l j).f1 < rd early j
      · rw [if_pos (show rd early j > (rd_T58 l j).f1 from h4), if_pos hlen, if_pos h4]
      · rw [if_neg (show ¬ rd early j > (rd_T58 l j).f1 from h4), if_pos hlen, if_neg h4, if_pos h3]
    · rw [if_neg h3, if_pos (by omega)]
      by_cases h4 : (rd_T58 l j).f1 < rd early j
      · rw [if_pos (show rd early j > (rd_T58 l j).f1 from h4), if_pos hlen, if_pos h4]
      · rw [if_neg (show ¬ rd early j > (rd_T58 l j).f1 from h4), if_pos hlen, if_neg h4, if_neg h3]

theorem passTo_rd (l : List S58) (es : List Int) : ∀ (k : Nat) (out : List Int) (i : Nat), i < out.length → rd (passTo l es k out) (i : Nat) = if i < k ∧ rd es (i : Nat) ≤ (rd_T58 l (i : Nat)).f1 then wrap64 (rd out (i : Nat) + 1) else rd out (i : Nat)
  | 0, out, i, h => by simp [passTo]
  | k + 1, out, i, h => by
    have ih := passTo_rd l es k out
    have hlen := passTo_len l es k out
    by_cases hc : rd es (k : Nat) ≤ (rd_T58 l (k : Nat)).f1
    · have hp : passTo l es (k + 1) out = (passTo l es k out).set k (wrap64 (rd (passTo l es k out) k + 1)) := if_pos hc
      rw [hp, rd_get _ i (by simp; omega)]
      by_cases hik : i = k
      · subst hik
        rw [List.getElem_set_self, ih i h, if_neg (by omega), if_pos ⟨by omega, hc⟩]
      · rw [List.getElem_set_ne (by omega)]
        have := ih i h
        rw [rd_get _ i (by omega)] at this
        rw [this]
        by_cases h1 : i < k ∧ rd es (i : Nat) ≤ (rd_T58 l (i : Nat)).f1
        · rw [if_pos h1, if_pos ⟨by omega, h1.2⟩]
        · rw [if_neg h1, if_neg (fun h2 => h1 ⟨by omega, h2.2⟩)]
    · have hp : passTo l es (k + 1) out = passTo l es k out := if_neg hc
      rw [hp, ih i h]
      by_cases hik : i = k
      · subst hik
        rw [if_neg (fun h2 => hc h2.2), if_neg (fun h2 => hc h2.2)]
      · by_cases h1 : i < k ∧ rd es (i : Nat) ≤ (rd_T58 l (i : Nat)).f1
        · rw [if_pos h1, if_pos ⟨by omega, h1.2⟩]
        · rw [if_neg h1, if_neg (fun h2 => h1 ⟨by omega, h2.2⟩)]
theorem passes_rd (l : List S58) (s : List Int) (i : Nat) (h : i < l.length) : rd (passes l s 2) (i : Nat) =
    (if rd (endsL s (worksOf 1 l)) (i : Nat) ≤ (rd_T58 l (i : Nat)).f1 then (1 : Int) else 0) + (if rd (endsL s (worksOf 0 l)) (i : Nat) ≤ (rd_T58 l (i : Nat)).f1 then 1 else 0) := by
  have e2 : passes l s 2 = passTo l (endsL s (worksOf 1 l)) l.length (passTo l (endsL s (worksOf 0 l)) l.length (List.replicate l.length 0)) := rfl
  have h0 : rd (List.replicate l.length (0 : Int)) (i : Nat) = 0 := by rw [rd_get _ i (by simpa using h)]; simp
  rw [e2, passTo_rd _ _ _ _ i (by rw [passTo_len]; simpa using h), passTo_rd _ _ _ _ i (by simpa using h), h0]
  by_cases h1 : rd (endsL s (worksOf 1 l)) (i : Nat) ≤ (rd_T58 l (i : Nat)).f1 <;> by_cases h2 : rd (endsL s (worksOf 0 l)) (i : Nat) ≤ (rd_T58 l (i : Nat)).f1 <;> simp [h, h1, h2, wrap64]

/-- Less work: earlier. -/
theorem fold_le (w0 w1' : List Int) (n : Nat) (hw : ∀ x : Int, 0 ≤ x → x < n → 0 ≤ rd w0 x ∧ rd w0 x ≤ rd w1' x ∧ rd w1' x ≤ 100) : ∀ (s : List Int) (q0 q1 : Int × List Int) (b : Int), (∀ x ∈ s, 0 ≤ x ∧ x < n) → b + 100 * s.length ≤ 100000 →
    0 ≤ q0.1 → q0.1 ≤ q1.1 → q1.1 ≤ b → q0.2.length = q1.2.length → (∀ i : Nat, i < q0.2.length → rd q0.2 i ≤ rd q1.2 i) → ∀ i : Nat, i < q0.2.length → rd (s.foldl (endsStep w0) q0).2 i ≤ rd (s.foldl (endsStep w1') q1).2 i
  | [], q0, q1, b, _, _, _, _, _, _, h6, i, hi => h6 i hi
  | x :: s, q0, q1, b, hx, hb, h1, h2, h3, h4, h6, i, hi => by
    have hx0 := hx x (by simp)
    have hwx := hw x hx0.1 hx0.2
    simp only [List.length_cons] at hb
    have e0 : wrap64 (q0.1 + rd w0 x) = q0.1 + rd w0 x := by unfold wrap64; omega
    have e1 : wrap64 (q1.1 + rd w1' x) = q1.1 + rd w1' x := by unfold wrap64; omega
    rw [List.foldl_cons, List.foldl_cons]
    refine fold_le w0 w1' n hw s (endsStep w0 q0 x) (endsStep w1' q1 x) (b + 100) (fun y hy => hx y (by simp [hy])) (by omega) ?_ ?_ ?_ ?_ ?_ i ?_
    · show 0 ≤ wrap64 _; rw [e0]; omega
    · show wrap64 _ ≤ wrap64 _; rw [e0, e1]; omega
    · show wrap64 _ ≤ _; rw [e1]; omega
    · simp [endsStep, h4]
    · intro i hi
      simp only [endsStep, List.length_set] at hi ⊢
      rw [rd_get _ i (by simpa using hi), rd_get _ i (by simp; omega)]
      by_cases hik : x.toNat = i
      · subst hik
        rw [List.getElem_set_self, List.getElem_set_self, e0, e1]; omega
      · rw [List.getElem_set_ne hik, List.getElem_set_ne hik]
        have := h6 i hi
        rw [rd_get _ i hi, rd_get _ i (by omega)] at this
        exact this
    · simpa [endsStep] using hi
theorem ends_mono {l : List S58} {s : List Int} (h : seqErr l s = 0) (i : Nat) (hi : i < l.length) : rd (endsL s (worksOf 0 l)) (i : Nat) ≤ rd (endsL s (worksOf 1 l)) (i : Nat) := by
  obtain ⟨h1, h2, _, h4, _⟩ := seqErr_zero h
  have hl := checkO_len h1
  have hall := checkO_all h1
  unfold endsL
  refine fold_le (worksOf 0 l) (worksOf 1 l) l.length ?_ s (0, List.replicate s.length 0) (0, List.replicate s.length 0) 0 h4 (by omega) (Int.le_refl _) (Int.le_refl _) (Int.le_refl _) rfl (fun _ _ => Int.le_refl _) i (by simp; omega)
  intro x hx0 hx1
  obtain ⟨n, rfl⟩ := Int.eq_ofNat_of_zero_le hx0
  have hn : n < l.length := by omega
  have e0 := rd_works 0 l n hn
  have e1 := rd_works 1 l n hn
  have hb := hall (rd_T58 l (n : Nat)) (by rw [rdT_get l n hn]; exact List.getElem_mem hn)
  rw [e0, e1]
  simp only [workOf, if_true, if_neg (show ¬ (1 : Int) = 0 by omega)]
  omega
theorem kinds_eq {l : List S58} {s : List Int} (h : seqErr l s = 0) : (iota l.length).map (kindAt l (endsL s (worksOf 0 l)) (endsL s (worksOf 1 l))) = passes l s 2 := by
  have hpl := passes_len l s 2
  refine List.ext_getElem (by rw [List.length_map, iota_len, hpl]) (fun i h1 h2 => ?_)
  have hi : i < l.length := by omega
  have hm := ends_mono h i hi
  have hp := passes_rd l s i hi
  rw [rd_get _ i h2] at hp
  rw [hp]
  have e : ((iota l.length).map (kindAt l (endsL s (worksOf 0 l)) (endsL s (worksOf 1 l))))[i] = kindAt l (endsL s (worksOf 0 l)) (endsL s (worksOf 1 l)) (i : Nat) := by simp [iota]
  rw [e]
  unfold kindAt
  split <;> split <;> split <;> (try split) <;> omega
theorem refKinds_ev (l : List S58) (s : List Int) (hs : s.length ≤ 15) : Ev (fun k => fippleref05_Kinds.f k l s) (if seqErr l s = 0 then (passes l s 2, 0) else ([], seqErr l s)) := by
  unfold fippleref05_Kinds.f
  refine Ev.bind (refCS_ev l s hs) ?_
  by_cases h : seqErr l s = 0
  · simp only [if_pos h]
    obtain ⟨h1, h2, _, h4, _⟩ := seqErr_zero h
    have hl := checkO_len h1
    have hr : ∀ side x, x ∈ s → 0 ≤ x ∧ x < (worksOf side l).length ∧ x < s.length := fun side x hx => by
      have := h4 x hx
      rw [worksOf_len]
      omega
    refine Ev.bind (side_ev l 0 (.inl rfl) (by omega)) ?_
    refine Ev.bind (refEndsOf_ev s (worksOf 0 l) (by omega) (hr 0)) ?_
    refine Ev.bind (side_ev l 1 (.inr rfl) (by omega)) ?_
    refine Ev.bind (refEndsOf_ev s (worksOf 1 l) (by omega) (hr 1)) ?_
    have := kinds_loop l (endsL s (worksOf 0 l)) (endsL s (worksOf 1 l)) (by omega) (by rw [endsL_len]; exact h2) (by rw [endsL_len]; exact h2) l.length 0 rfl (by omega)
    rw [kinds_eq h] at this
    exact this
  · simp only [if_neg h]
    refine Ev.bind (refCS_ev l s hs) ?_
    exact Ev.now _
end Go.Proofs.Ytmlahfidnfdhbaa.Pr
