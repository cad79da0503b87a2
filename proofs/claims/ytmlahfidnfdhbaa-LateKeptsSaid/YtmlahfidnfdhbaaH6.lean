import Derived.Test.YtmlahfidnfdhbaaH5
set_option linter.unusedSimpArgs false
set_option linter.unusedVariables false
namespace Go.Proofs.Ytmlahfidnfdhbaa.Pr
open Go.RowKit Go.Proofs.YtmlahfidnfdhbaaW.PrintWords Go.Proofs.YtmlahfidnfdhbaaW.PrintLast Go.Proofs.YtmlahfidnfdhbaaW.PrintMore

theorem lastMax_le (ws y : List Int) : ∀ j, 0 < y.length → j ≤ y.length → lastMax ws y j < y.length
  | 0, h, _ => h
  | j + 1, h, hj => by
    have := lastMax_lt ws y (j + 1) (by omega)
    omega
theorem inner_loop (l : List S58) (side : Int) (L ws y : List Int) (x8 : Int) (v : List Int) (hy : y.length ≤ 1000) (hpos : 0 < y.length) (hr : ∀ x ∈ y, 0 ≤ x ∧ x < ws.length)
    (hv : Ev (fun n => fippleref05_KeptOf.l0 n l side L ws (y.take (lastMax ws y y.length) ++ y.drop (lastMax ws y y.length + 1)) (wrap64 (x8 + 1))) v) : ∀ d j, y.length - j = d → j ≤ y.length →
    Ev (fun n => fippleref05_KeptOf.l1 n l side L ws y x8 (lastMax ws y j : Nat) (j : Nat)) v := by
  intro d
  induction d with
  | zero =>
    intro j h1 h2
    obtain rfl : j = y.length := by omega
    have hb := lastMax_le ws y y.length hpos (Nat.le_refl _)
    refine Ev.step (fun n => ?_) hv
    generalize lastMax ws y y.length = b at *
    simp only [fippleref05_KeptOf.l1]
    have e1 : wrap64 ((b : Int) + 1) = ((b + 1 : Nat) : Int) := by unfold wrap64; omega
    have l1 : ([] : List Int).length + (y.take b).length < 17592186044416 := by simp; omega
    have l2 : ([] ++ y.take b : List Int).length + (y.drop (b + 1)).length < 17592186044416 := by simp; omega
    rw [if_neg (by omega)]
    simp only [Option.bind_some, e1, Int.toNat_natCast]
    rw [if_pos (by omega), if_pos (by omega), if_pos l1, if_pos (by omega), if_pos (by omega), if_pos l2]
    rfl
  | succ d ih =>
    intro j h1 h2
    have hj : j < y.length := by omega
    have hb := lastMax_le ws y j hpos (by omega)
    have g1 := hr _ (List.getElem_mem hj)
    have g2 := hr _ (List.getElem_mem hb)
    have e1 := rd_get y j hj
    have e2 := rd_get y _ hb
    refine Ev.step (f := fun n => fippleref05_KeptOf.l1 n l side L ws y x8 (lastMax ws y (j + 1) : Nat) ((j + 1 : Nat) : Int)) (fun n => ?_) (ih (j + 1) (by omega) (by omega))
    have e3 : lastMax ws y (j + 1) = if rd ws (rd y (lastMax ws y j : Nat)) ≤ rd ws (rd y (j : Nat)) then j else lastMax ws y j := rfl
    rw [e3]
    generalize lastMax ws y j = b at *
    simp only [fippleref05_KeptOf.l1]
    rw [← e1] at g1
    rw [← e2] at g2
    rw [if_pos (by omega), if_pos (by omega), if_pos g1.1, if_pos g1.2, if_pos (by omega), if_pos (by omega), if_pos g2.1, if_pos g2.2, w1 j (by omega)]
    by_cases hc : rd ws (rd y (b : Nat)) ≤ rd ws (rd y (j : Nat))
    · rw [if_pos hc, if_pos hc]
    · rw [if_neg hc, if_neg hc]
theorem inner0 (l : List S58) (side : Int) (L ws y : List Int) (x8 x8' : Int) (v : List Int) (hy : y.length ≤ 1000) (hpos : 0 < y.length) (hr : ∀ x ∈ y, 0 ≤ x ∧ x < ws.length) (he : wrap64 (x8 + 1) = x8')
    (hv : Ev (fun n => fippleref05_KeptOf.l0 n l side L ws (y.take (lastMax ws y y.length) ++ y.drop (lastMax ws y y.length + 1)) x8') v) : Ev (fun n => fippleref05_KeptOf.l1 n l side L ws y x8 0 0) v := by
  subst he
  have h := inner_loop l side L ws y x8 v hy hpos hr hv y.length 0 rfl (Nat.zero_le _)
  have e0 : lastMax ws y 0 = 0 := rfl
  rw [e0] at h
  exact h
theorem keptOf_loop {l : List S58} {side : Int} (h : checkO l = 0) (hs : side = 0 ∨ side = 1) : ∀ d k, (byDueL l).length - k = d → k ≤ (byDueL l).length →
    Ev (fun n => fippleref05_KeptOf.l0 n l side (byDueL l) (worksOf side l) (keptAt l (worksOf side l) k).1 (k : Nat)) (keptL l (worksOf side l)) := by
  intro d
  have hl := checkO_len h
  have hlen := byDueL_len l
  induction d with
  | zero =>
    intro k h1 h2
    obtain rfl : k = (byDueL l).length := by omega
    refine Ev.step (f := fun _ => some (keptL l (worksOf side l))) (fun n => ?_) (Ev.now _)
    simp only [fippleref05_KeptOf.l0]
    rw [if_neg (by omega)]
    rfl
  | succ d ih =>
    intro k h1 h2
    have hk : k < (byDueL l).length := by omega
    have hsub := keptAt_sub l (worksOf side l) k (by omega)
    have hsub1 : ((keptAt l (worksOf side l) k).1 ++ [rd (byDueL l) (k : Nat)]).Sublist ((byDueL l).take (k + 1)) := by
      rw [List.take_succ_eq_append_getElem (show k < (byDueL l).length by omega), rd_get _ k (by omega)]
      exact hsub.append (List.Sublist.refl _)
    have hsub2 := hsub1.trans (List.take_sublist _ _)
    have hlen2 := hsub1.length_le
    rw [List.length_take] at hlen2
    have ih1 := ih (k + 1) (by omega) (by omega)
    rw [keptStep_feas h hs k hk] at ih1
    have hr : ∀ x ∈ (keptAt l (worksOf side l) k).1 ++ [rd (byDueL l) (k : Nat)], 0 ≤ x ∧ x < l.length := fun x hx => byDueL_range l x (hsub2.subset hx)
    generalize (keptAt l (worksOf side l) k).1 = K at *
    obtain ⟨y, hy⟩ : ∃ y, y = K ++ [rd (byDueL l) (k : Nat)] := ⟨_, rfl⟩
    have hKlen : K.length < 17592186044416 := by
      rw [List.length_append, List.length_singleton] at hlen2; omega
    have hypos : 0 < y.length := by rw [hy]; simp
    refine Ev.step (f := fun n => (fippleref05_CanKeep.f n l side y).bind fun t277 => (if t277 = true then (fippleref05_KeptOf.l0 n l side (byDueL l) (worksOf side l) y ((k + 1 : Nat) : Int)) else (fippleref05_KeptOf.l1 n l side (byDueL l) (worksOf side l) y (k : Nat) 0 0))) (fun n => ?_) ?_
    · simp only [fippleref05_KeptOf.l0]
      rw [if_pos (by omega), if_pos (by omega), if_pos hKlen, w1 k (by omega), hy]
      rfl
    · rw [← hy] at hr hsub2 hlen2 ih1
      refine Ev.bind (canKeep_ev h hs hr (by omega)) ?_
      by_cases hf : feas l (worksOf side l) y
      · simp only [decide_eq_true hf, if_true]
        rw [if_pos hf] at ih1
        exact ih1
      · simp only [decide_eq_false hf, Bool.false_eq_true, if_false]
        rw [if_neg hf] at ih1
        have hN := hsub2.nodup (byDueL_nodup l)
        have hbest := lastMax_best (ws := worksOf side l) (byDueL_nodup l) hsub2 y.length hypos (Nat.le_refl _)
        have hb := lastMax_le (worksOf side l) y y.length hypos (Nat.le_refl _)
        rw [rd_get y _ hb] at hbest
        have hw : worstOf (btOf (worksOf side l) (byDueL l)) y = y[lastMax (worksOf side l) y y.length] := hbest.symm
        rw [hw, erase_at y hN _ hb] at ih1
        refine inner0 l side (byDueL l) (worksOf side l) y ((k : Nat) : Int) ((k + 1 : Nat) : Int) (keptL l (worksOf side l)) (by omega) hypos (fun x hx => by rw [worksOf_len]; exact hr x hx) (w1 k (by omega)) ?_
        exact ih1
theorem keptOf_ev {l : List S58} {side : Int} (h : checkO l = 0) (hs : side = 0 ∨ side = 1) : Ev (fun n => fippleref05_KeptOf.f n l side) (keptL l (worksOf side l)) := by
  have hl := checkO_len h
  unfold fippleref05_KeptOf.f
  refine Ev.bind (seqOf_ev l (by omega)) ?_
  refine Ev.bind (side_ev l side hs (by omega)) ?_
  exact keptOf_loop h hs _ 0 rfl (by omega)
theorem kept_loop (l : List S58) (ks : List Int) (hl : l.length ≤ 1000) (hk : ks.length ≤ 1000) : ∀ d j, l.length - j = d → j ≤ l.length → Ev (fun n => fippleref05_Kept.l0 n l ks (upTo ks j) (j : Nat)) (upTo ks l.length, 0) := by
  intro d
  induction d with
  | zero =>
    intro j h1 h2
    obtain rfl : j = l.length := by omega
    refine Ev.step (f := fun _ => some (upTo ks l.length, 0)) (fun n => ?_) (Ev.now _)
    simp only [fippleref05_Kept.l0]
    rw [if_neg (by omega)]
  | succ d ih =>
    intro j h1 h2
    have hu := upTo_len ks j
    have ih1 := ih (j + 1) (by omega) (by omega)
    refine Ev.step (f := fun n => (fippleref05_Place.f n ks (j : Nat)).bind fun t304 => (if t304 ≥ 0 then (fippleref05_Kept.l0 n l ks (upTo ks j ++ [((j : Nat) : Int)]) ((j + 1 : Nat) : Int)) else (fippleref05_Kept.l0 n l ks (upTo ks j) ((j + 1 : Nat) : Int)))) (fun n => ?_) ?_
    · simp only [fippleref05_Kept.l0]
      rw [if_pos (by omega), w1 j (by omega), if_pos (show (upTo ks j).length < 17592186044416 by omega)]
    · refine Ev.bind (place_ev ks (j : Nat) hk) ?_
      by_cases hm : ((j : Nat) : Int) ∈ ks
      · rw [upTo_in hm] at ih1
        have hc : ks.contains ((j : Nat) : Int) = true := by simpa using hm
        simp only [hc, if_true]
        simp only [if_pos (show ((ks.idxOf ((j : Nat) : Int) : Nat) : Int) ≥ 0 by omega)]
        exact ih1
      · rw [upTo_out hm] at ih1
        have hc : ks.contains ((j : Nat) : Int) = false := by simpa using hm
        simp only [hc, Bool.false_eq_true, if_false]
        simp only [if_neg (show ¬ (-1 : Int) ≥ 0 by omega)]
        exact ih1
theorem refKept_ev (l : List S58) (side : Int) : Ev (fun n => fippleref05_Kept.f n l side) (if sideErr l side = 0 then (upTo (keptL l (worksOf side l)) l.length, 0) else (([] : List Int), sideErr l side)) := by
  unfold fippleref05_Kept.f
  refine Ev.bind (checkSide_ev l side) ?_
  by_cases h : sideErr l side = 0
  · simp only [if_pos h]
    obtain ⟨h1, hs, _⟩ := sideErr_zero h
    have hl := checkO_len h1
    have hlen := byDueL_len l
    refine Ev.bind (keptOf_ev h1 hs) ?_
    have hks : (keptL l (worksOf side l)).length ≤ l.length := by
      have := (keptAt_sub l (worksOf side l) (byDueL l).length (Nat.le_refl _)).length_le
      rw [List.length_take] at this
      unfold keptL
      omega
    exact kept_loop l _ (by omega) (by omega) l.length 0 rfl (by omega)
  · simp only [if_neg h]
    refine Ev.bind (checkSide_ev l side) ?_
    exact Ev.now _
end Go.Proofs.Ytmlahfidnfdhbaa.Pr
