import Derived.Test.YtpbemjdaanlaoaaH3
import Derived.Test.YtpbemjdaanlaoaaN14
import Derived.Test.YtpbemjdaanlaoaaN15
import Derived.Test.YtpbemjdaanlaoaaN10
import Derived.Test.YtpbemjdaanlaoaaN8
set_option linter.unusedVariables false
set_option linter.unusedSimpArgs false
namespace Go.Proofs.Ytpbemjdaanlaoaa.Pr
open Go.RowKit Go.Proofs.YtpbemjdaanlaoaaW.PrintWords Go.Proofs.YtpbemjdaanlaoaaW.PrintLast Go.Proofs.YtpbemjdaanlaoaaW.PrintMore
set_option maxRecDepth 100000

def falB (l : List Int) (j : Nat) (b : Bool) : Prop := b = true ↔ ∀ i : Nat, j ≤ i → i < l.length → rd l (i : Int) ≤ rd l ((i : Int) - 1)
theorem shapeFall (l : List Int) (hl : l.length ≤ 1000) (b : Bool) :
    ∀ d j, l.length - j = d → 1 ≤ j → falB l j b → Ev (fun k => fippleref08_CheckShape.l1 k l (j : Int)) (if b = false then 22 else 0) := by
  intro d
  induction d with
  | zero =>
    intro j h1 h2 hb
    obtain rfl : b = true := hb.mpr fun i h3 h4 => by omega
    refine Ev.step (f := fun k => some (0 : Int)) (fun k => ?_) (Ev.now _)
    simp only [fippleref08_CheckShape.l1]
    rw [if_neg (by omega)]
  | succ d ih =>
    intro j h1 h2 hb
    have hj : j < l.length := by omega
    have hw : wrap64 ((j : Int) - 1) = (j : Int) - 1 := by unfold wrap64; omega
    by_cases hx : rd l (j : Int) ≤ rd l ((j : Int) - 1)
    · refine Ev.step (f := fun k => fippleref08_CheckShape.l1 k l ((j + 1 : Nat) : Int)) (fun k => ?_) (ih (j + 1) (by omega) (by omega) (hb.trans ⟨fun h i h3 => h i (by omega), fun h i h3 h4 => ?_⟩))
      · simp only [fippleref08_CheckShape.l1]
        rw [if_pos (by omega), if_pos (by omega), hw, if_pos (by omega), if_pos (by omega), if_neg (by omega), w1_ j (by omega)]
      · by_cases hij : i = j
        · subst hij; exact hx
        · exact h i (by omega) h4
    · obtain rfl : b = false := by
        cases hbb : b with
        | false => rfl
        | true => exact absurd (hb.mp hbb j (Nat.le_refl _) hj) hx
      refine Ev.step (f := fun _ => some (22 : Int)) (fun k => ?_) (Ev.now _)
      simp only [fippleref08_CheckShape.l1]
      rw [if_pos (by omega), if_pos (by omega), hw, if_pos (by omega), if_pos (by omega), if_pos (by omega)]
theorem shapeScope (l : List Int) (hl : l.length ≤ 1000) (b : Bool) (R : Int) (hR : b = true → Ev (fun k => if sumI l > 12 then (some (6 : Int)) else fippleref08_CheckShape.l1 k l 1) R) :
    ∀ d j, l.length - j = d → j ≤ l.length → (∀ i : Nat, i < j → 1 ≤ rd l (i : Int) ∧ rd l (i : Int) ≤ 12) → inB 12 l j b → Ev (fun k => fippleref08_CheckShape.l0 k l (sumI (l.take j)) (j : Int)) (if b = false then 3 else R) := by
  intro d
  induction d with
  | zero =>
    intro j h1 h2 hp hb
    obtain rfl : b = true := hb.mpr fun i h3 h4 => by omega
    obtain rfl : j = l.length := by omega
    refine Ev.step (f := fun k => if sumI l > 12 then (some (6 : Int)) else fippleref08_CheckShape.l1 k l 1) (fun k => ?_) (by rw [if_neg (by decide)]; exact hR rfl)
    simp only [fippleref08_CheckShape.l0]
    rw [if_neg (by omega), List.take_length]
  | succ d ih =>
    intro j h1 h2 hp hb
    have hj : j < l.length := by omega
    by_cases hx : 1 ≤ rd l (j : Int) ∧ rd l (j : Int) ≤ 12
    · have hs : sumI (l.take (j + 1)) = sumI (l.take j) + rd l (j : Int) := by rw [sumI_take_succ l j hj, rd_get l j hj]
      have hsb := sumI_bound (l.take j) (fun x hx => by
        obtain ⟨i, hi, rfl⟩ := List.mem_iff_getElem.mp hx
        rw [List.length_take] at hi
        rw [List.getElem_take]
        have := hp i (by omega)
        rw [rd_get l i (by omega)] at this
        exact this)
      rw [List.length_take] at hsb
      have hw : wrap64 (sumI (l.take j) + rd l (j : Int)) = sumI (l.take j) + rd l (j : Int) := by unfold wrap64; omega
      refine Ev.step (f := fun k => fippleref08_CheckShape.l0 k l (sumI (l.take (j + 1))) ((j + 1 : Nat) : Int)) (fun k => ?_) (ih (j + 1) (by omega) (by omega) (fun i hi => ?_) (inB_next hb hx))
      · simp only [fippleref08_CheckShape.l0]
        rw [if_pos (by omega), if_pos (by omega), if_neg (by omega), if_neg (by omega), w1_ j (by omega), hw, hs]
      · by_cases hij : i = j
        · subst hij; exact hx
        · exact hp i (by omega)
    · obtain rfl := inB_no hb hj hx
      refine Ev.step (f := fun _ => some (3 : Int)) (fun k => ?_) (Ev.now _)
      simp only [fippleref08_CheckShape.l0]
      rw [if_pos (by omega), if_pos (by omega)]
      by_cases h0 : rd l (j : Int) < 1
      · rw [if_pos h0]
      · rw [if_neg h0, if_pos (by omega)]
theorem grows_iff (l : List Int) : falB l 1 (!grows l) := by
  unfold falB grows
  simp only [Bool.not_eq_true', List.any_eq_false, List.mem_range, Bool.and_eq_true, decide_eq_true_eq, not_and]
  constructor
  · intro h i h1 h2
    have := h i h2 (by omega)
    rw [show ((i - 1 : Nat) : Int) = (i : Int) - 1 by omega] at this
    omega
  · intro h i h1 h2
    have := h i (by omega) h1
    rw [show ((i - 1 : Nat) : Int) = (i : Int) - 1 by omega]
    omega
theorem refShape_ev (l : List Int) (hl : l.length ≤ 1000) : Ev (fun k => fippleref08_CheckShape.f k l) (chkS l) := by
  unfold chkS
  have := shapeScope l hl (within_ 1 12 l) (if 12 < sumI l then 6 else if grows l = true then 22 else 0) (fun _ => ?_) l.length 0 rfl (by omega) (fun i hi => by omega) (inB_within 12 l)
  · exact this
  · by_cases h : 12 < sumI l
    · refine Ev.congr (f := fun _ => some (6 : Int)) (fun k => if_pos h) ?_
      rw [if_pos h]
      exact Ev.now _
    · refine Ev.congr (f := fun k => fippleref08_CheckShape.l1 k l ((1 : Nat) : Int)) (fun k => if_neg h) ?_
      rw [if_neg h]
      have := shapeFall l hl (!grows l) (l.length - 1) 1 rfl (by omega) (grows_iff l)
      cases hg : grows l <;> rw [hg] at this <;> exact this

/-- all shapes: at most n in all, no part over m -/
def parts : Nat → Nat → Nat → List (List Int)
  | 0, _, _ => [[]]
  | f + 1, n, m => [] :: (List.range (min n m)).flatMap fun a => (parts f (n - (a + 1)) (a + 1)).map fun l => ((a + 1 : Nat) : Int) :: l
theorem parts_mem : ∀ (f n m : Nat) (l : List Int), l.length ≤ f → (∀ x ∈ l, 1 ≤ x ∧ x ≤ m) → l.Pairwise (fun a b => b ≤ a) → sumI l ≤ n → l ∈ parts f n m
  | 0, n, m, l, h1, _, _, _ => by
    obtain rfl : l = [] := List.length_eq_zero_iff.mp (by omega)
    simp [parts]
  | f + 1, n, m, [], _, _, _, _ => by simp [parts]
  | f + 1, n, m, a :: l, h1, h2, h3, h4 => by
    have ha := h2 a List.mem_cons_self
    obtain ⟨k, rfl⟩ := Int.eq_ofNat_of_zero_le (show 0 ≤ a by omega)
    obtain ⟨j, rfl⟩ : ∃ j, k = j + 1 := ⟨k - 1, by omega⟩
    have h5 := List.pairwise_cons.mp h3
    have h6 : ∀ x ∈ l, 1 ≤ x ∧ x ≤ ((j + 1 : Nat) : Int) := fun x hx => ⟨(h2 x (List.mem_cons_of_mem _ hx)).1, h5.1 x hx⟩
    have h7 : 0 ≤ sumI l := by
      have : ∀ l : List Int, (∀ x ∈ l, 1 ≤ x) → 0 ≤ sumI l := by
        intro l
        induction l with
        | nil => simp [sumI]
        | cons b t ih =>
          intro h
          have := ih fun x hx => h x (List.mem_cons_of_mem _ hx)
          have := h b List.mem_cons_self
          simp only [sumI]
          omega
      exact this l fun x hx => (h6 x hx).1
    simp only [sumI] at h4
    simp only [List.length_cons] at h1
    simp only [parts, List.mem_cons, List.mem_flatMap, List.mem_map, List.mem_range]
    refine Or.inr ⟨j, by omega, l, parts_mem f _ _ l (by omega) h6 h5.2 (by omega), rfl⟩
def shapes : List (List Int) := parts 12 12 12
theorem chkS_mem {l : List Int} (h : chkS l = 0) : l ∈ shapes := by
  unfold chkS at h
  split at h
  · cases h
  · rename_i h1
    split at h
    · cases h
    · rename_i h2
      split at h
      · cases h
      · rename_i h3
        have hw := within_true (show within_ 1 12 l = true by simpa using h1)
        have hb := sumI_bound l hw
        have hf := (grows_iff l).mp (by simpa using h3)
        refine parts_mem 12 12 12 l (by omega) hw ?_ (by omega)
        rw [List.pairwise_iff_getElem]
        have step : ∀ d i, (h : i + d < l.length) → l[i + d] ≤ l[i]'(by omega) := by
          intro d
          induction d with
          | zero => intro i h; exact Int.le_refl _
          | succ d ih =>
            intro i h
            have h4 := ih i (by omega)
            have h5 := hf (i + (d + 1)) (by omega) h
            rw [rd_get l _ h, show (((i + (d + 1) : Nat) : Int) - 1) = ((i + d : Nat) : Int) by omega, rd_get l _ (by omega)] at h5
            omega
        intro i j hi hj hij
        have := step (j - i) i (by omega)
        simpa [show i + (j - i) = j by omega] using this
end Go.Proofs.Ytpbemjdaanlaoaa.Pr
