import Derived.Test.YtmlahfidnfdhbaaH4
set_option linter.unusedSimpArgs false
set_option linter.unusedVariables false
namespace Go.Proofs.Ytmlahfidnfdhbaa.Pr
open Go.RowKit Go.Proofs.YtmlahfidnfdhbaaW.PrintWords Go.Proofs.YtmlahfidnfdhbaaW.PrintLast Go.Proofs.YtmlahfidnfdhbaaW.PrintMore

theorem pos_pairwise {L : List Int} (hn : L.Nodup) : L.Pairwise (fun a b => posOf L a < posOf L b) :=
  List.pairwise_iff_getElem.2 (fun i j hi hj hij => by unfold posOf; rw [hn.idxOf_getElem i hi, hn.idxOf_getElem j hj]; omega)
theorem bt_later {ws L y : List Int} (hn : L.Nodup) (hs : y.Sublist L) (b j : Nat) (hb : b < j) (hj : j < y.length) : btOf ws L (rd y (j : Nat)) (rd y (b : Nat)) = true ↔ rd ws (rd y (b : Nat)) ≤ rd ws (rd y (j : Nat)) := by
  have hp := List.pairwise_iff_getElem.1 (List.Pairwise.sublist hs (pos_pairwise hn)) b j (by omega) hj hb
  rw [btOf_iff, rd_get y j hj, rd_get y b (by omega)]
  omega
/-- The last one of those with the greatest work: the reference's inner loop. -/
def lastMax (ws y : List Int) : Nat → Nat
  | 0 => 0
  | j + 1 => if rd ws (rd y (lastMax ws y j : Nat)) ≤ rd ws (rd y (j : Nat)) then j else lastMax ws y j
theorem lastMax_lt (ws y : List Int) : ∀ j, 0 < j → lastMax ws y j < j
  | 0, h => by omega
  | 1, _ => by unfold lastMax; split <;> simp [lastMax]
  | j + 2, _ => by
    have := lastMax_lt ws y (j + 1) (by omega)
    unfold lastMax
    split <;> omega
theorem lastMax_best {ws L y : List Int} (hn : L.Nodup) (hs : y.Sublist L) : ∀ j, 0 < j → j ≤ y.length → rd y (lastMax ws y j : Nat) = bestTo (btOf ws L) y (j - 1)
  | 0, h, _ => by omega
  | 1, _, _ => by
    have : lastMax ws y 1 = 0 := by have := lastMax_lt ws y 1 (by omega); omega
    rw [this]; rfl
  | j + 2, _, h => by
    have ih := lastMax_best hn hs (ws := ws) (j + 1) (by omega) (by omega)
    have hlt := lastMax_lt ws y (j + 1) (by omega)
    have hbt := bt_later (ws := ws) hn hs (lastMax ws y (j + 1)) (j + 1) hlt (by omega)
    have e1 : (j + 2 - 1 : Nat) = j + 1 := rfl
    have e2 : (j + 1 - 1 : Nat) = j := rfl
    rw [e2] at ih
    rw [e1]
    show rd y ((if rd ws (rd y (lastMax ws y (j + 1) : Nat)) ≤ rd ws (rd y ((j + 1 : Nat) : Int)) then j + 1 else lastMax ws y (j + 1) : Nat) : Int) = (if btOf ws L (rd y ((j : Int) + 1)) (bestTo (btOf ws L) y j) = true then rd y ((j : Int) + 1) else bestTo (btOf ws L) y j)
    rw [← ih]
    rw [show ((j + 1 : Nat) : Int) = (j : Int) + 1 from rfl] at hbt ⊢
    by_cases hc : rd ws (rd y (lastMax ws y (j + 1) : Nat)) ≤ rd ws (rd y ((j : Int) + 1))
    · rw [if_pos hc, if_pos (hbt.2 hc)]; rfl
    · rw [if_neg hc, if_neg (fun h => hc (hbt.1 h))]

theorem keptAt_facts {l : List S58} {side : Int} (h : checkO l = 0) (hs : side = 0 ∨ side = 1) : ∀ k, k ≤ (byDueL l).length → feas l (worksOf side l) (keptAt l (worksOf side l) k).1 ∧ (keptAt l (worksOf side l) k).2 = psum (worksOf side l) (keptAt l (worksOf side l) k).1
  | 0, _ => ⟨by intro i hi; simp [keptAt] at hi, by simp [keptAt, psum_nil]⟩
  | k + 1, hk => by
    obtain ⟨i1, i2⟩ := keptAt_facts h hs k (by omega)
    have hl := checkO_len h
    have hlen := byDueL_len l
    have hsub := keptAt_sub l (worksOf side l) k (by omega)
    have hsub1 : ((keptAt l (worksOf side l) k).1 ++ [rd (byDueL l) (k : Nat)]).Sublist ((byDueL l).take (k + 1)) := by
      rw [List.take_succ_eq_append_getElem (show k < (byDueL l).length by omega), rd_get _ k (by omega)]
      exact hsub.append (List.Sublist.refl _)
    have hsub2 := hsub1.trans (List.take_sublist _ _)
    rw [keptAt_succ l _ k (by omega)]
    generalize keptAt l (worksOf side l) k = s at *
    generalize rd (byDueL l) (k : Nat) = i at *
    have hb : ∀ x ∈ s.1 ++ [i], 0 ≤ rd (worksOf side l) x ∧ rd (worksOf side l) x ≤ 100 := fun x hx => by
      have := byDueL_range l x (hsub2.subset hx)
      have := rd_works_bound h hs x this.1 this.2
      omega
    generalize worksOf side l = ws at *
    have hS : ByDue l (s.1 ++ [i]) := List.Pairwise.sublist hsub2 (byDueL_sorted l)
    have hN := hsub2.nodup (byDueL_nodup l)
    have hlen2 := hsub1.length_le
    rw [List.length_take] at hlen2
    have hps := psum_bound ws (s.1 ++ [i]) hb
    have hw : wrap64 (s.2 + rd ws i) = psum ws (s.1 ++ [i]) := by
      rw [psum_append, psum_cons, psum_nil] at hps ⊢
      rw [i2]
      unfold wrap64; omega
    unfold keptStep
    rw [hw]
    have hf := feas_snoc hS hN (fun x hx => (hb x hx).1) i1
    have hd : dueOf l i = (rd_T58 l i).f1 := rfl
    rw [hd] at hf
    by_cases hc : psum ws (s.1 ++ [i]) ≤ (rd_T58 l i).f1
    · rw [if_pos hc]; exact ⟨hf.2 hc, rfl⟩
    · rw [if_neg hc]
      have hm := worstOf_mem (btOf ws (byDueL l)) (s.1 ++ [i]) (by simp)
      have hmx : ∀ x ∈ s.1 ++ [i], rd ws x ≤ rd ws (worstOf (btOf ws (byDueL l)) (s.1 ++ [i])) := fun x hx => by
        have := worstOf_max _ (btOf_irr ws (byDueL l)) (btOf_trans ws (byDueL l)) (s.1 ++ [i]) x hx
        rw [Bool.eq_false_iff, ne_eq, btOf_iff] at this
        omega
      refine ⟨feas_erase hS (fun x hx => (hb x hx).1) i1 hm hmx, ?_⟩
      have hp := psum_perm (ws := ws) (List.perm_cons_erase hm)
      rw [psum_cons] at hp
      have b2 := psum_bound ws ((s.1 ++ [i]).erase (worstOf (btOf ws (byDueL l)) (s.1 ++ [i]))) (fun x hx => hb x (List.erase_sublist.subset hx))
      have hmb := hb _ hm
      show wrap64 (psum ws (s.1 ++ [i]) - rd ws (worstOf (btOf ws (byDueL l)) (s.1 ++ [i]))) = psum ws ((s.1 ++ [i]).erase (worstOf (btOf ws (byDueL l)) (s.1 ++ [i])))
      unfold wrap64; omega
/-- One step of the program, told by what can be kept. -/
theorem keptStep_feas {l : List S58} {side : Int} (h : checkO l = 0) (hs : side = 0 ∨ side = 1) (k : Nat) (hk : k < (byDueL l).length) :
    (keptAt l (worksOf side l) (k + 1)).1 = if feas l (worksOf side l) ((keptAt l (worksOf side l) k).1 ++ [rd (byDueL l) (k : Nat)]) then (keptAt l (worksOf side l) k).1 ++ [rd (byDueL l) (k : Nat)] else ((keptAt l (worksOf side l) k).1 ++ [rd (byDueL l) (k : Nat)]).erase (worstOf (btOf (worksOf side l) (byDueL l)) ((keptAt l (worksOf side l) k).1 ++ [rd (byDueL l) (k : Nat)])) := by
  obtain ⟨i1, i2⟩ := keptAt_facts h hs k (by omega)
  have hl := checkO_len h
  have hlen := byDueL_len l
  have hsub := keptAt_sub l (worksOf side l) k (by omega)
  have hsub1 : ((keptAt l (worksOf side l) k).1 ++ [rd (byDueL l) (k : Nat)]).Sublist ((byDueL l).take (k + 1)) := by
    rw [List.take_succ_eq_append_getElem (show k < (byDueL l).length by omega), rd_get _ k (by omega)]
    exact hsub.append (List.Sublist.refl _)
  have hsub2 := hsub1.trans (List.take_sublist _ _)
  rw [keptAt_succ l _ k (by omega)]
  generalize keptAt l (worksOf side l) k = s at *
  generalize rd (byDueL l) (k : Nat) = i at *
  have hb : ∀ x ∈ s.1 ++ [i], 0 ≤ rd (worksOf side l) x ∧ rd (worksOf side l) x ≤ 100 := fun x hx => by
    have := byDueL_range l x (hsub2.subset hx)
    have := rd_works_bound h hs x this.1 this.2
    omega
  generalize worksOf side l = ws at *
  have hS : ByDue l (s.1 ++ [i]) := List.Pairwise.sublist hsub2 (byDueL_sorted l)
  have hN := hsub2.nodup (byDueL_nodup l)
  have hlen2 := hsub1.length_le
  rw [List.length_take] at hlen2
  have hps := psum_bound ws (s.1 ++ [i]) hb
  have hw : wrap64 (s.2 + rd ws i) = psum ws (s.1 ++ [i]) := by
    rw [psum_append, psum_cons, psum_nil] at hps ⊢
    rw [i2]
    unfold wrap64; omega
  have hf := feas_snoc hS hN (fun x hx => (hb x hx).1) i1
  have hd : dueOf l i = (rd_T58 l i).f1 := rfl
  rw [hd] at hf
  unfold keptStep
  rw [hw]
  by_cases hc : psum ws (s.1 ++ [i]) ≤ (rd_T58 l i).f1
  · rw [if_pos hc, if_pos (hf.2 hc)]
  · rw [if_neg hc, if_neg (fun h => hc (hf.1 h))]
end Go.Proofs.Ytmlahfidnfdhbaa.Pr
