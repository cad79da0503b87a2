import Derived.Test.YtmlahfidnfdhbaaH2
set_option linter.unusedSimpArgs false
set_option linter.unusedVariables false
namespace Go.Proofs.Ytmlahfidnfdhbaa.Pr
open Go.RowKit Go.Proofs.YtmlahfidnfdhbaaW.PrintWords Go.Proofs.YtmlahfidnfdhbaaW.PrintLast Go.Proofs.YtmlahfidnfdhbaaW.PrintMore

theorem upFrom_spec (n : Int) : ∀ (K : List Int) (x : Int), upFrom n x K = true → (∀ i ∈ K, x ≤ i ∧ i < n) ∧ K.Pairwise (· < ·)
  | [], x, _ => by simp
  | y :: r, x, h => by
    simp only [upFrom, Bool.and_eq_true, within_one] at h
    obtain ⟨g1, g2⟩ := upFrom_spec n r (y + 1) h.2
    refine ⟨fun i hi => ?_, List.pairwise_cons.2 ⟨fun i hi => by have := g1 i hi; omega, g2⟩⟩
    rcases List.mem_cons.1 hi with rfl | hi
    · omega
    · have := g1 i hi; omega
theorem filter_kept_perm {l : List S58} {K : List Int} (hn : K.Nodup) (hr : ∀ x ∈ K, 0 ≤ x ∧ x < l.length) : ((byDueL l).filter (fun i => K.contains i)).Perm K := by
  refine (List.perm_ext_iff_of_nodup ((List.filter_sublist).nodup (byDueL_nodup l)) hn).2 (fun i => ?_)
  rw [List.mem_filter]
  constructor
  · rintro ⟨_, h⟩
    simpa using h
  · intro h
    exact ⟨(byDueL_perm l).mem_iff.2 (iota_mem.2 (hr i h)), by simpa using h⟩
theorem scan_feas {l : List S58} {K : List Int} {side : Int} (h : checkO l = 0) (hs : side = 0 ∨ side = 1) (hn : K.Nodup) (hr : ∀ x ∈ K, 0 ≤ x ∧ x < l.length) : scan l (worksOf side l) K 0 (byDueL l) = true ↔ feas l (worksOf side l) K := by
  have hl := checkO_len h
  have hlen := byDueL_len l
  have hb : ∀ x ∈ byDueL l, 0 ≤ rd (worksOf side l) x ∧ rd (worksOf side l) x ≤ 100 := fun x hx => by
    have := byDueL_range l x hx
    have := rd_works_bound h hs x this.1 this.2
    omega
  rw [scan_iff l (worksOf side l) K (byDueL l) 0 (Int.le_refl _) (by omega) hb, ← feas_perm (filter_kept_perm hn hr)]
  have hsub : ((byDueL l).filter (fun i => K.contains i)).Sublist (byDueL l) := List.filter_sublist
  rw [feas_iff (List.Pairwise.sublist hsub (byDueL_sorted l)) (hsub.nodup (byDueL_nodup l)) (fun x hx => (hb x (hsub.subset hx)).1)]
  simp only [Int.zero_add]

theorem checkKept_loop {l : List S58} {side : Int} (K : List Int) (v : Int) (hl : l.length ≤ 10) (hK : K.length ≤ 1000)
    (hv : upFrom l.length 0 K = true → Ev (fun k => (fippleref05_CanKeep.f k l side K).bind fun t314 => (if t314 = true then (some 0) else (some 12))) v) : ∀ d j (x : Int), K.length - j = d → j ≤ K.length → (x = if j = 0 then 0 else rd K ((j : Int) - 1) + 1) → upFrom l.length 0 K = upFrom l.length x (K.drop j) → 0 ≤ x →
    Ev (fun k => fippleref05_CheckKept.l0 k l side K (j : Int)) (if upFrom l.length x (K.drop j) = true then v else 2) := by
  intro d
  induction d with
  | zero =>
    intro j x h1 h2 h3 h4 h5
    obtain rfl : j = K.length := by omega
    rw [List.drop_length] at h4 ⊢
    refine Ev.step (f := fun k => (fippleref05_CanKeep.f k l side K).bind fun t314 => (if t314 = true then (some 0) else (some 12))) (fun k => ?_) ?_
    · simp only [fippleref05_CheckKept.l0]
      rw [if_neg (by omega)]
    · exact hv h4
  | succ d ih =>
    intro j x h1 h2 h3 h4 h5
    have hj : j < K.length := by omega
    have hd : K.drop j = K[j] :: K.drop (j + 1) := List.drop_eq_getElem_cons hj
    have e := rd_get K j hj
    rw [hd] at h4 ⊢
    have hu : upFrom l.length x (K[j] :: K.drop (j + 1)) = (within_ x ((l.length : Int) - 1) [K[j]] && upFrom l.length (K[j] + 1) (K.drop (j + 1))) := rfl
    rw [hu] at h4 ⊢
    have hw := within_one x ((l.length : Int) - 1) K[j]
    by_cases hin : x ≤ K[j] ∧ K[j] ≤ (l.length : Int) - 1
    · have hwt : within_ x ((l.length : Int) - 1) [K[j]] = true := hw.2 hin
      rw [hwt, Bool.true_and] at h4 ⊢
      refine Ev.step (f := fun k => fippleref05_CheckKept.l0 k l side K ((j + 1 : Nat) : Int)) (fun k => ?_) (ih (j + 1) (K[j] + 1) (by omega) (by omega) ?_ h4 (by omega))
      · simp only [fippleref05_CheckKept.l0]
        rw [if_pos (by omega), if_pos (by omega), e, if_neg (by omega), if_neg (by omega), w1 j (by omega)]
        by_cases hj0 : j = 0
        · rw [if_neg (by omega)]
        · have hwj : wrap64 ((j : Int) - 1) = (j : Int) - 1 := by unfold wrap64; omega
          rw [if_neg hj0] at h3
          rw [if_pos (by omega), hwj, if_pos (by omega), if_pos (by omega), if_neg (by omega)]
      · rw [if_neg (by omega)]
        have : ((j + 1 : Nat) : Int) - 1 = (j : Int) := by omega
        rw [this, e]
    · have hwf : within_ x ((l.length : Int) - 1) [K[j]] = false := Bool.eq_false_iff.2 (fun h => hin (hw.1 h))
      rw [hwf, Bool.false_and]
      refine Ev.step (f := fun _ => some 2) (fun k => ?_) (Ev.now _)
      simp only [fippleref05_CheckKept.l0]
      rw [if_pos (by omega), if_pos (by omega), e]
      by_cases h6 : K[j] < 0
      · rw [if_pos h6]
      · rw [if_neg h6]
        by_cases h7 : K[j] ≥ (l.length : Int)
        · rw [if_pos h7]
        · rw [if_neg h7]
          have hj0 : ¬ j = 0 := by
            intro hj0
            rw [if_pos hj0] at h3
            omega
          have hwj : wrap64 ((j : Int) - 1) = (j : Int) - 1 := by unfold wrap64; omega
          rw [if_neg hj0] at h3
          rw [if_pos (by omega), hwj, if_pos (by omega), if_pos (by omega), if_pos (by omega)]
theorem refCheckKept_ev (l : List S58) (side : Int) (K : List Int) (hK : K.length ≤ 15) : ∃ v, late_CheckKept.f l side K = some v ∧ Ev (fun k => fippleref05_CheckKept.f k l side K) v := by
  refine ⟨_, rfl, ?_⟩
  unfold fippleref05_CheckKept.f
  refine Ev.bind (checkSide_ev l side) ?_
  by_cases h : sideErr l side = 0
  · simp only [if_pos h]
    obtain ⟨h1, hs, _⟩ := sideErr_zero h
    have hl := checkO_len h1
    refine checkKept_loop K _ hl (by omega) ?_ K.length 0 0 rfl (by omega) rfl rfl (Int.le_refl _)
    intro hu
    obtain ⟨g1, g2⟩ := upFrom_spec _ K 0 hu
    have hlen := upFrom_len _ K 0 (Int.le_refl _) (by omega) hu
    have hr : ∀ x ∈ K, 0 ≤ x ∧ x < l.length := g1
    have hnd : K.Nodup := g2.imp (fun h e => by omega)
    refine Ev.bind (canKeep_ev h1 hs hr (by omega)) ?_
    have hsf := scan_feas (side := side) h1 hs hnd hr
    by_cases hf : feas l (worksOf side l) K
    · rw [if_pos (hsf.2 hf)]
      simp only [decide_eq_true hf, if_true]
      exact Ev.now _
    · rw [if_neg (fun h => hf (hsf.1 h))]
      simp only [decide_eq_false hf, Bool.false_eq_true, if_false]
      exact Ev.now _
  · simp only [if_neg h]
    refine Ev.bind (checkSide_ev l side) ?_
    exact Ev.now _
end Go.Proofs.Ytmlahfidnfdhbaa.Pr
