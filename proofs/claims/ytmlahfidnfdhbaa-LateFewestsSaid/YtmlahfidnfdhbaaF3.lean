import Derived.Test.YtmlahfidnfdhbaaM5
import Derived.Test.YtmlahfidnfdhbaaRE
set_option linter.unusedSimpArgs false
set_option linter.unusedVariables false
namespace Go.Proofs.Ytmlahfidnfdhbaa.Pr
open Go.RowKit Go.Proofs.YtmlahfidnfdhbaaW.PrintWords Go.Proofs.YtmlahfidnfdhbaaW.PrintLast Go.Proofs.YtmlahfidnfdhbaaW.PrintMore

theorem rd_app_l (xs ys : List Int) (i : Nat) (h : i < xs.length) : rd (xs ++ ys) (i : Nat) = rd xs (i : Nat) := by
  rw [rd_get _ i (by simp; omega), rd_get _ i h, List.getElem_append_left h]
theorem swap_app (xs ys : List Int) (j : Nat) (h : j + 1 < xs.length) : swapAt (xs ++ ys) j = swapAt xs j ++ ys := by
  unfold swapAt
  rw [rd_app_l xs ys j (by omega)]
  have := rd_app_l xs ys (j + 1) h
  rw [show (((j + 1 : Nat)) : Int) = (j : Int) + 1 from rfl] at this
  rw [this, List.set_append_left _ _ h, List.set_append_left _ _ (by simp; omega)]
theorem insDown_app (cmp : Int → Int → Int) (ys : List Int) : ∀ (j : Nat) (xs : List Int), j < xs.length → insDown cmp j (xs ++ ys) = insDown cmp j xs ++ ys
  | 0, xs, _ => by unfold insDown; rfl
  | j + 1, xs, h => by
    have e1 := rd_app_l xs ys (j + 1) h
    have e2 := rd_app_l xs ys j (by omega)
    rw [show (((j + 1 : Nat)) : Int) = (j : Int) + 1 from rfl] at e1
    by_cases hc : cmp (rd xs (j + 1)) (rd xs j) < 0
    · rw [insDown_succ_lt cmp j xs hc, insDown_succ_lt cmp j (xs ++ ys) (by rw [e1, e2]; exact hc), swap_app xs ys j h]
      exact insDown_app cmp ys j _ (by rw [swapAt_len]; omega)
    · rw [insDown_succ_ge cmp j xs hc, insDown_succ_ge cmp j (xs ++ ys) (by rw [e1, e2]; exact hc)]
theorem insTo_app (cmp : Int → Int → Int) (ys : List Int) : ∀ (k : Nat) (xs : List Int), k ≤ xs.length → insTo cmp k (xs ++ ys) = insTo cmp k xs ++ ys
  | 0, xs, _ => by unfold insTo; rfl
  | k + 1, xs, h => by
    unfold insTo
    rw [insTo_app cmp ys k xs (by omega), insDown_app cmp ys k _ (by rw [insTo_len]; omega)]
/-- The orders by their Due: the first k of them. -/
def seqTo (l : List S58) (k : Nat) : List Int := insTo (dueCmp l) k (iota k)
theorem seqTo_succ (l : List S58) (k : Nat) : seqTo l (k + 1) = insDown (dueCmp l) k (seqTo l k ++ [(k : Int)]) := by
  unfold seqTo
  rw [iota_succ]
  show insDown (dueCmp l) k (insTo (dueCmp l) k (iota k ++ [(k : Int)])) = _
  rw [insTo_app _ _ k _ (by rw [iota_len]; exact Nat.le_refl _)]
theorem seqTo_len (l : List S58) (k : Nat) : (seqTo l k).length = k := by unfold seqTo; rw [insTo_len, iota_len]
theorem seqTo_range (l : List S58) (k : Nat) : AllP (fun x => 0 ≤ x ∧ x < k) (seqTo l k) := by
  refine AllP_insTo _ _ _ (by rw [iota_len]; exact Nat.le_refl _) ?_
  intro x hx
  exact iota_mem.1 hx
theorem dueCmp_lt (l : List S58) (x y : Int) : dueCmp l x y < 0 ↔ (rd_T58 l x).f1 < (rd_T58 l y).f1 := by
  unfold dueCmp cmpI
  split
  · simp; assumption
  · split <;> simp <;> omega
theorem wm1 (j : Nat) (h : j < 1000000) : wrap64 (((j + 1 : Nat) : Int) - 1) = (j : Int) := by unfold wrap64; omega
theorem seq_inner (l : List S58) (i : Nat) (r : List Int) (hi : i < l.length) (hl : l.length ≤ 20) : ∀ j (xs : List Int), xs.length = i + 1 → j ≤ i → AllP (fun x => 0 ≤ x ∧ x < l.length) xs →
    Ev (fun k => fippleref05_SequenceOf.l0 k l (insDown (dueCmp l) j xs) ((i + 1 : Nat) : Int)) r → Ev (fun k => fippleref05_SequenceOf.l1 k l xs (i : Int) (j : Int)) r := by
  intro j
  induction j with
  | zero =>
    intro xs hx hj hp he
    refine Ev.step (f := fun k => fippleref05_SequenceOf.l0 k l xs ((i + 1 : Nat) : Int)) (fun k => ?_) ?_
    · simp only [fippleref05_SequenceOf.l1]
      rw [if_neg (by omega), w1 i (by omega)]
    · unfold insDown at he; exact he
  | succ j ih =>
    intro xs hx hj hp he
    have p1 := AllP_rd hp (j + 1) (by omega)
    have p0 := AllP_rd hp j (by omega)
    by_cases hc : dueCmp l (rd xs (j + 1)) (rd xs j) < 0
    · refine Ev.step (f := fun k => fippleref05_SequenceOf.l1 k l (swapAt xs j) (i : Int) (j : Int)) (fun k => ?_) ?_
      · simp only [fippleref05_SequenceOf.l1]
        rw [wm1 j (by omega)]
        rw [dueCmp_lt] at hc
        have hc' : (rd_T58 l (rd xs ((j + 1 : Nat) : Int))).f1 < (rd_T58 l (rd xs (j : Int))).f1 := hc
        rw [if_pos (by omega), if_pos (by omega), if_pos (by omega), if_pos p1.1, if_pos p1.2, if_pos (by omega), if_pos (by omega), if_pos p0.1, if_pos p0.2, if_pos hc']
        rfl
      · rw [insDown_succ_lt _ _ _ hc] at he
        exact ih (swapAt xs j) (by rw [swapAt_len]; exact hx) (by omega) (AllP_swap hp j (by omega)) he
    · refine Ev.step (f := fun k => fippleref05_SequenceOf.l0 k l xs ((i + 1 : Nat) : Int)) (fun k => ?_) ?_
      · simp only [fippleref05_SequenceOf.l1]
        rw [wm1 j (by omega), w1 i (by omega)]
        rw [dueCmp_lt] at hc
        have hc' : ¬ (rd_T58 l (rd xs ((j + 1 : Nat) : Int))).f1 < (rd_T58 l (rd xs (j : Int))).f1 := hc
        rw [if_pos (by omega), if_pos (by omega), if_pos (by omega), if_pos p1.1, if_pos p1.2, if_pos (by omega), if_pos (by omega), if_pos p0.1, if_pos p0.2, if_neg hc']
      · rw [insDown_succ_ge _ _ _ hc] at he; exact he
theorem seq_outer (l : List S58) (hl : l.length ≤ 20) : ∀ d i, l.length - i = d → i ≤ l.length → Ev (fun k => fippleref05_SequenceOf.l0 k l (seqTo l i) (i : Int)) (byDueL l) := by
  intro d
  induction d with
  | zero =>
    intro i h1 h2
    obtain rfl : i = l.length := by omega
    refine Ev.step (f := fun _ => some (byDueL l)) (fun k => ?_) (Ev.now _)
    simp only [fippleref05_SequenceOf.l0]
    rw [if_neg (by omega)]
    rfl
  | succ d ih =>
    intro i h1 h2
    have hi : i < l.length := by omega
    have hlen := seqTo_len l i
    refine Ev.step (f := fun k => fippleref05_SequenceOf.l1 k l (seqTo l i ++ [(i : Int)]) (i : Int) (i : Int)) (fun k => ?_) ?_
    · simp only [fippleref05_SequenceOf.l0]
      rw [if_pos (by omega), if_pos (by omega)]
    · refine seq_inner l i _ hi hl i _ (by simp [hlen]) (Nat.le_refl _) ?_ ?_
      · intro x hx
        rcases List.mem_append.1 hx with hx | hx
        · have := seqTo_range l i x hx; omega
        · simp at hx; subst hx; omega
      · rw [← seqTo_succ]
        exact ih (i + 1) (by omega) (by omega)
theorem seqOf_ev (l : List S58) (hl : l.length ≤ 20) : Ev (fun k => fippleref05_SequenceOf.f k l) (byDueL l) := by
  have := seq_outer l hl l.length 0 rfl (by omega)
  exact this
theorem worksOf_take (side : Int) (l : List S58) (j : Nat) : (worksOf side l).take j = worksOf side (l.take j) := by unfold worksOf; rw [List.map_take]
theorem side_loop (l : List S58) (side : Int) (hs : side = 0 ∨ side = 1) (hl : l.length ≤ 20) : ∀ d j, l.length - j = d → j ≤ l.length → Ev (fun k => fippleref05_Side.l0 k l side (worksOf side (l.take j)) (j : Int)) (worksOf side l) := by
  intro d
  induction d with
  | zero =>
    intro j h1 h2
    obtain rfl : j = l.length := by omega
    rw [List.take_length]
    refine Ev.step (f := fun _ => some (worksOf side l)) (fun k => ?_) (Ev.now _)
    simp only [fippleref05_Side.l0]
    rw [if_neg (by omega)]
  | succ d ih =>
    intro j h1 h2
    have hj : j < l.length := by omega
    have e := rdT_get l j hj
    refine Ev.step (f := fun k => fippleref05_Side.l0 k l side (worksOf side (l.take (j + 1))) ((j + 1 : Nat) : Int)) (fun k => ?_) (ih (j + 1) (by omega) (by omega))
    have hlen : (worksOf side (l.take j)).length < 17592186044416 := by rw [worksOf_len]; simp; omega
    have hw : worksOf side (l.take (j + 1)) = worksOf side (l.take j) ++ [workOf side l[j]] := by
      rw [List.take_succ_eq_append_getElem hj]; simp only [worksOf, List.map_append, List.map_cons, List.map_nil]
    simp only [fippleref05_Side.l0]
    rw [if_pos (by omega), if_pos (by omega), w1 j (by omega), hw, e]
    rcases hs with rfl | rfl
    · rw [if_neg (by omega), if_pos hlen]; rfl
    · rw [if_pos rfl, if_pos hlen]; rfl
theorem side_ev (l : List S58) (side : Int) (hs : side = 0 ∨ side = 1) (hl : l.length ≤ 20) : Ev (fun k => fippleref05_Side.f k l side) (worksOf side l) := by
  have := side_loop l side hs hl l.length 0 rfl (by omega)
  exact this

theorem checkO_all {l : List S58} (h : checkO l = 0) : ∀ x ∈ l, 1 ≤ x.f0.f0 ∧ x.f0.f0 ≤ x.f0.f1 ∧ x.f0.f1 ≤ 100 ∧ 0 ≤ x.f1 ∧ x.f1 ≤ 2000 := by
  intro x hx
  unfold checkO at h
  split at h
  · cases h
  · split at h
    · cases h
    · rename_i h2
      have h3 : ¬ oddO x.f0.f0 x.f0.f1 x.f1 = true := fun h4 => h2 (List.any_eq_true.2 ⟨x, hx, h4⟩)
      rw [oddO_iff] at h3
      omega
theorem rd_works (side : Int) (l : List S58) (i : Nat) (h : i < l.length) : rd (worksOf side l) (i : Nat) = workOf side (rd_T58 l (i : Nat)) := by
  rw [rd_get _ i (by rw [worksOf_len]; exact h), rdT_get l i h]
  simp [worksOf]
end Go.Proofs.Ytmlahfidnfdhbaa.Pr
