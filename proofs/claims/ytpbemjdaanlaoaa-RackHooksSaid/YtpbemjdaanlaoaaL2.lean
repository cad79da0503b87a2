import Derived.Test.YtpbemjdaanlaoaaL1
set_option linter.unusedVariables false
set_option linter.unusedSimpArgs false
namespace Go.Proofs.Ytpbemjdaanlaoaa.Pr
open Go.RowKit Go.Proofs.YtpbemjdaanlaoaaW.PrintWords Go.Proofs.YtpbemjdaanlaoaaW.PrintLast Go.Proofs.YtpbemjdaanlaoaaW.PrintMore
set_option maxRecDepth 100000

/-- what Count says of a shape -/
def cOf (l : List Int) : Int := match rack_Count.f 20 l with | some p => p.1 | none => 0
def isCorner (l : List Int) (i : Nat) : Bool := decide (i + 1 = l.length) || decide (rd l (i : Int) > rd l ((i + 1 : Nat) : Int))
def totF (l : List Int) : Nat → Nat → Int → Int
  | 0, _, acc => acc
  | d + 1, j, acc => totF l d (j + 1) (if isCorner l j = true then wrap64 (acc + cOf (lessP l j)) else acc)
/-- what is looked up for every shape -/
def okShape (l : List Int) : Bool :=
  decide (rack_Count.f 20 l = some (cOf l, 0)) && decide (fippleref08_HooksOf.f 200 l = some (hooksTo l l.length)) &&
  (decide (l.length ≤ 12) && (decide ((hooksTo l l.length).length ≤ 12) && (hooksTo l l.length).all fun r => decide (r.length ≤ 12))) &&
  ((decide (l = []) && decide (cOf l = 1)) || (decide (l ≠ []) && decide (totF l l.length 0 0 = cOf l))) &&
  (List.range l.length).all fun i => (decide (0 ≤ rd l (i : Int)) && decide (rd l (i : Int) ≤ 1000)) && (!isCorner l i || (decide (lessP l i ∈ shapes) && decide (0 ≤ sumI (lessP l i)) && decide (sumI (lessP l i) < sumI l)))
theorem all_ok : shapes.all okShape = true := by decide +kernel
structure OkS (l : List Int) : Prop where
  cnt : rack_Count.f 20 l = some (cOf l, 0)
  hooks : fippleref08_HooksOf.f 200 l = some (hooksTo l l.length)
  len : l.length ≤ 12
  hl : (hooksTo l l.length).length ≤ 12
  hr : ∀ r ∈ hooksTo l l.length, r.length ≤ 12
  nil : l = [] → cOf l = 1
  tot : l ≠ [] → totF l l.length 0 0 = cOf l
  rg : ∀ i, i < l.length → 0 ≤ rd l (i : Int) ∧ rd l (i : Int) ≤ 1000
  less : ∀ i, i < l.length → isCorner l i = true → lessP l i ∈ shapes ∧ 0 ≤ sumI (lessP l i) ∧ sumI (lessP l i) < sumI l
theorem ok_of {l : List Int} (h : l ∈ shapes) : OkS l := by
  have := List.all_eq_true.mp all_ok l h
  unfold okShape at this
  simp only [Bool.and_eq_true, Bool.or_eq_true, List.all_eq_true, List.mem_range, decide_eq_true_eq, Bool.not_eq_true'] at this
  obtain ⟨⟨⟨⟨h1, h2⟩, h3, h4, h5⟩, h6⟩, h7⟩ := this
  refine ⟨h1, h2, h3, h4, h5, fun e => ?_, fun e => ?_, fun i hi => (h7 i hi).1, fun i hi hc => ?_⟩
  · rcases h6 with ⟨_, h⟩ | ⟨h, _⟩
    · exact h
    · exact absurd e h
  · rcases h6 with ⟨h, _⟩ | ⟨_, h⟩
    · exact absurd h e
    · exact h
  · rcases (h7 i hi).2 with h | ⟨⟨h, h'⟩, h''⟩
    · rw [hc] at h; cases h
    · exact ⟨h, h', h''⟩
theorem countOf_loop (l : List Int) (hl : l.length ≤ 12) (hne : l ≠ []) (hrg : ∀ i, i < l.length → 0 ≤ rd l (i : Int) ∧ rd l (i : Int) ≤ 1000) (hrec : ∀ i, i < l.length → isCorner l i = true → Ev (fun k => fippleref08_CountOf.f k (lessP l i)) (cOf (lessP l i))) :
    ∀ d j acc, l.length - j = d → j ≤ l.length → Ev (fun k => fippleref08_CountOf.l0 k l acc (j : Int)) (totF l d j acc) := by
  intro d
  induction d with
  | zero =>
    intro j acc h1 h2
    refine Ev.step (f := fun _ => some acc) (fun k => ?_) (Ev.now _)
    simp only [fippleref08_CountOf.l0]
    rw [if_neg (by omega)]
  | succ d ih =>
    intro j acc h1 h2
    have hj : j < l.length := by omega
    have hw := w1_ j (by omega)
    refine Ev.step (f := fun k => fippleref08_CountOf.j1 k l acc (j : Int) (isCorner l j)) (fun k => ?_) ?_
    · simp only [fippleref08_CountOf.l0]
      rw [if_pos (by omega), hw]
      unfold isCorner
      by_cases hl1 : j + 1 = l.length
      · rw [if_pos (by omega), decide_eq_true hl1, Bool.true_or]
      · rw [if_neg (by omega), if_pos (by omega), if_pos (by omega), if_pos (by omega), decide_eq_false hl1, Bool.false_or]
    · cases hc : isCorner l j with
      | false =>
        refine Ev.step (f := fun k => fippleref08_CountOf.l0 k l acc ((j + 1 : Nat) : Int)) (fun k => ?_) ?_
        · simp only [fippleref08_CountOf.j1]
          rw [if_neg (by decide), hw]
        · have := ih (j + 1) acc (by omega) (by omega)
          simp only [totF, hc]
          exact this
      | true =>
        have hg := hrg j hj
        refine Ev.step (f := fun k => (fippleref08_CountOf.f k (lessP l j)).bind fun t279 => (fippleref08_CountOf.l0 k l (wrap64 (acc + t279)) ((j + 1 : Nat) : Int))) (fun k => ?_) ?_
        · simp only [fippleref08_CountOf.j1]
          rw [if_pos trivial, hw, fippleref08_Less.f, if_pos ⟨by omega, by omega, by omega, hg.1, hg.2⟩]
          rfl
        · refine Ev.bind (hrec j hj hc) ?_
          have := ih (j + 1) (wrap64 (acc + cOf (lessP l j))) (by omega) (by omega)
          simp only [totF, hc]
          exact this
theorem countOf_ev : ∀ (n : Nat) (l : List Int), l ∈ shapes → sumI l < n → Ev (fun k => fippleref08_CountOf.f k l) (cOf l)
  | 0, l, h, hn => by
    have : 0 ≤ sumI l := by
      have h1 : ∀ l ∈ shapes, 0 ≤ sumI l := by decide +kernel
      exact h1 l h
    omega
  | n + 1, l, h, hn => by
    have ok := ok_of h
    by_cases he : l = []
    · subst he
      rw [ok.nil rfl]
      refine Ev.step (f := fun _ => some (1 : Int)) (fun k => ?_) (Ev.now _)
      simp only [fippleref08_CountOf.f]
      rfl
    · rw [← ok.tot he]
      refine Ev.step (f := fun k => fippleref08_CountOf.l0 k l 0 ((0 : Nat) : Int)) (fun k => ?_) (countOf_loop l ok.len he ok.rg (fun i hi hc => countOf_ev n (lessP l i) (ok.less i hi hc).1 (by have := (ok.less i hi hc).2.2; omega)) l.length 0 0 rfl (by omega))
      simp only [fippleref08_CountOf.f]
      rw [if_neg (by have := List.length_pos_iff.mpr he; omega)]
      rfl
/-- what both sides hand back -/
def countR (l : List Int) : Int × Int := if chkS l ≠ 0 then (0, chkS l) else (cOf l, 0)
theorem rackCount_ev (l : List Int) (hl : l.length ≤ 20) : Ev (fun k => rack_Count.f k l) (countR l) := by
  unfold countR
  by_cases h : chkS l = 0
  · rw [if_neg (by omega)]
    exact Ev.of (fun k => rack_Count.mono l k) (ok_of (chkS_mem h)).cnt
  · rw [if_pos h]
    refine Ev.congr (f := fun _ => some (0, chkS l)) (fun k => ?_) (Ev.now _)
    unfold rack_Count.f rack_Hooks.f hooksR
    rw [if_pos (by omega), if_pos h]
    show (if chkS l = 0 then _ else some (0, chkS l)) = _
    rw [if_neg h]
theorem refCount_ev (l : List Int) (hl : l.length ≤ 20) : Ev (fun k => fippleref08_Count.f k l) (countR l) := by
  refine Ev.bind (refShape_ev l (by omega)) ?_
  unfold countR
  by_cases h : chkS l = 0
  · rw [if_neg (by omega)]
    refine Ev.congr (f := fun k => (fippleref08_CountOf.f k l).bind fun t281 => (some (t281, 0))) (fun k => by rw [if_pos h]) ?_
    exact Ev.bind (countOf_ev ((sumI l).toNat + 1) l (chkS_mem h) (by omega)) (Ev.now _)
  · rw [if_pos h]
    refine Ev.congr (f := fun k => (fippleref08_CheckShape.f k l).bind fun t282 => (some (0, t282))) (fun k => by rw [if_neg h]) ?_
    exact Ev.bind (refShape_ev l (by omega)) (Ev.now _)
theorem refHooks_ev (l : List Int) (hl : l.length ≤ 20) : Ev (fun k => fippleref08_Hooks.f k l) (hooksR l) := by
  refine Ev.bind (refShape_ev l (by omega)) ?_
  unfold hooksR
  by_cases h : chkS l = 0
  · rw [if_neg (by omega)]
    refine Ev.congr (f := fun k => (fippleref08_HooksOf.f k l).bind fun t688 => (some (t688, 0))) (fun k => by rw [if_pos h]) ?_
    exact Ev.bind (Ev.of (fun k => fippleref08_HooksOf.mono l k) (ok_of (chkS_mem h)).hooks) (Ev.now _)
  · rw [if_pos h]
    refine Ev.congr (f := fun k => (fippleref08_CheckShape.f k l).bind fun t691 => (some (([] : List (List Int)), t691))) (fun k => by rw [if_neg h]) ?_
    exact Ev.bind (refShape_ev l (by omega)) (Ev.now _)
theorem hooks_small (l : List Int) : (hooksR l).1.length ≤ 1000 ∧ ∀ r ∈ (hooksR l).1, r.length ≤ 1000 := by
  unfold hooksR
  split
  · simp
  · rename_i h
    have ok := ok_of (chkS_mem (Decidable.not_not.mp h))
    have h1 := ok.hl
    exact ⟨by show (hooksTo l l.length).length ≤ 1000; omega, fun r hr => Nat.le_trans (ok.hr r hr) (by omega)⟩
end Go.Proofs.Ytpbemjdaanlaoaa.Pr
