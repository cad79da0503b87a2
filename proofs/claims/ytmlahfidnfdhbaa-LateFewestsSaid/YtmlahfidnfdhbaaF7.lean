import Derived.Test.YtmlahfidnfdhbaaF6
set_option linter.unusedSimpArgs false
set_option linter.unusedVariables false
namespace Go.Proofs.Ytmlahfidnfdhbaa.Pr
open Go.RowKit Go.Proofs.YtmlahfidnfdhbaaW.PrintWords Go.Proofs.YtmlahfidnfdhbaaW.PrintLast Go.Proofs.YtmlahfidnfdhbaaW.PrintMore

def isDue (l : List S58) (d : Int) (i : Int) : Bool := decide (dueOf l i ≤ d)
theorem rd_works_bound {l : List S58} {side : Int} (h : checkO l = 0) (hs : side = 0 ∨ side = 1) (x : Int) (h0 : 0 ≤ x) (h1 : x < l.length) : 1 ≤ rd (worksOf side l) x ∧ rd (worksOf side l) x ≤ 100 := by
  obtain ⟨n, rfl⟩ := Int.eq_ofNat_of_zero_le h0
  exact work_bounds h hs n (by omega)
theorem bound_take (l : List S58) (ws : List Int) (d : Int) (hl : l.length ≤ 20) (hw : ws.length = l.length) (hd0 : 0 ≤ d) (hd1 : d ≤ 1000000) (hb : ∀ i : Nat, i < l.length → 1 ≤ rd ws (i : Nat) ∧ rd ws (i : Nat) ≤ 100) :
    ∀ j, j ≤ l.length → boundFrom d (l.take j) (ws.take j) = (psum ws ((iota j).filter (isDue l d)) - d, (iota j).any (isDue l d)) := by
  intro j
  induction j with
  | zero =>
    intro _
    have : wrap64 (-d) = -d := by unfold wrap64; omega
    simp [boundFrom, iota, psum_nil, this]
  | succ j ih =>
    intro hj
    have hj' : j < l.length := by omega
    have e := rdT_get l j hj'
    have ew := rd_get ws j (by omega)
    have hbj := hb j hj'
    have hpb := psum_bound ws ((iota j).filter (isDue l d)) (fun x hx => by
      have hx2 := (iota_mem (n := j)).1 (List.mem_filter.1 hx).1
      obtain ⟨n, rfl⟩ := Int.eq_ofNat_of_zero_le hx2.1
      have := hb n (by omega)
      omega)
    have hfl : ((iota j).filter (isDue l d)).length ≤ j := by have := List.length_filter_le (isDue l d) (iota j); rw [iota_len] at this; exact this
    rw [boundFrom_succ d l ws j hj' (by omega), ih (by omega), iota_succ, List.filter_append, List.any_append, psum_append]
    unfold boundStep
    have hdue : dueOf l (j : Nat) = l[j].f1 := by unfold dueOf; rw [e]
    by_cases h5 : l[j].f1 ≤ d
    · have h6 : isDue l d (j : Nat) = true := by unfold isDue; rw [hdue]; exact decide_eq_true h5
      have h7 : [(j : Int)].filter (isDue l d) = [(j : Int)] := by simp [h6]
      simp only [if_pos h5]
      rw [h7, psum_cons, psum_nil, ew]
      rw [ew] at hbj
      refine Prod.ext ?_ ?_
      · show wrap64 _ = _; unfold wrap64; omega
      · simp [h6]
    · have h6 : isDue l d (j : Nat) = false := by unfold isDue; rw [hdue]; exact decide_eq_false h5
      have h7 : [(j : Int)].filter (isDue l d) = [] := by simp [h6]
      simp only [if_neg h5]
      rw [h7, psum_nil]
      refine Prod.ext ?_ ?_
      · simp
      · simp [h6]
/-- The bound of a day, by the sum of what is due by then. -/
def Bd (l : List S58) (ws : List Int) (d : Int) : Int := psum ws ((byDueL l).filter (isDue l d)) - d
theorem bound_val {l : List S58} {side : Int} (h : checkO l = 0) (hs : side = 0 ∨ side = 1) (d : Int) (hd0 : 0 ≤ d) (hd1 : d ≤ 1000000) :
    (boundFrom d l (worksOf side l)).1 = Bd l (worksOf side l) d ∧ ((boundFrom d l (worksOf side l)).2 = true ↔ ∃ i ∈ byDueL l, dueOf l i ≤ d) := by
  have hl := checkO_len h
  have := bound_take l (worksOf side l) d (by omega) (worksOf_len _ _) hd0 hd1 (fun i hi => work_bounds h hs i hi) l.length (Nat.le_refl _)
  rw [List.take_length, List.take_of_length_le (by rw [worksOf_len]; exact Nat.le_refl _)] at this
  rw [this]
  refine ⟨?_, ?_⟩
  · unfold Bd
    rw [psum_perm ((byDueL_perm l).symm.filter (isDue l d))]
  · rw [List.any_eq_true]
    constructor
    · rintro ⟨i, hi, h2⟩
      exact ⟨i, (byDueL_perm l).mem_iff.2 hi, of_decide_eq_true h2⟩
    · rintro ⟨i, hi, h2⟩
      exact ⟨i, (byDueL_perm l).mem_iff.1 hi, decide_eq_true h2⟩

theorem filter_take (l : List S58) (d : Int) : ∀ (xs : List Int), ByDue l xs → xs.filter (isDue l d) = xs.take (xs.filter (isDue l d)).length
  | [], _ => by simp
  | x :: r, h => by
    obtain ⟨h1, h2⟩ := List.pairwise_cons.1 h
    by_cases hx : dueOf l x ≤ d
    · have hx' : isDue l d x = true := decide_eq_true hx
      rw [List.filter_cons_of_pos hx', List.length_cons, List.take_succ_cons, ← filter_take l d r h2]
    · have hx' : ¬ isDue l d x = true := by unfold isDue; rw [decide_eq_true_iff]; exact hx
      have hr : r.filter (isDue l d) = [] := by
        rw [List.filter_eq_nil_iff]
        intro y hy
        unfold isDue
        rw [decide_eq_true_iff]
        have := h1 y hy
        omega
      rw [List.filter_cons_of_neg hx', hr]
      rfl
theorem nodup_inj {xs : List Int} (h : xs.Nodup) {q p : Nat} (hq : q < xs.length) (hp : p < xs.length) (e : xs[q] = xs[p]) : q = p := by
  rcases Nat.lt_trichotomy q p with h1 | h1 | h1
  · exact absurd e (List.pairwise_iff_getElem.1 h q p hq hp h1)
  · exact h1
  · exact absurd e.symm (List.pairwise_iff_getElem.1 h p q hp hq h1)
/-- By their Due: each ends no later than all that are due by then. -/
theorem prefix_le {l : List S58} {ws : List Int} (hb : ∀ x ∈ byDueL l, 0 ≤ rd ws x) (p : Nat) (hp : p < (byDueL l).length) : psum ws ((byDueL l).take (p + 1)) ≤ psum ws ((byDueL l).filter (isDue l (dueOf l (byDueL l)[p]))) := by
  have hs := byDueL_sorted l
  have e : ((byDueL l).take (p + 1)).filter (isDue l (dueOf l (byDueL l)[p])) = (byDueL l).take (p + 1) := by
    rw [List.filter_eq_self]
    intro x hx
    obtain ⟨q, hq, rfl⟩ := List.getElem_of_mem hx
    have hq' : q < p + 1 := by simp at hq; omega
    rw [List.getElem_take]
    unfold isDue
    rw [decide_eq_true_iff]
    by_cases hqp : q = p
    · subst hqp; exact Int.le_refl _
    · exact List.pairwise_iff_getElem.1 hs q p (by omega) hp (by omega)
  rw [← e]
  exact psum_sub ws (List.Sublist.filter _ (List.take_sublist _ _)) (fun x hx => hb x (List.mem_filter.1 hx).1)
theorem prefix_eq {l : List S58} {ws : List Int} (p : Nat) (hp : p < (byDueL l).length) : ∃ q, ∃ hq : q < (byDueL l).length, dueOf l (byDueL l)[q] = dueOf l (byDueL l)[p] ∧ psum ws ((byDueL l).take (q + 1)) = psum ws ((byDueL l).filter (isDue l (dueOf l (byDueL l)[p]))) := by
  have hs := byDueL_sorted l
  have hf := filter_take l (dueOf l (byDueL l)[p]) (byDueL l) hs
  obtain ⟨n, hn⟩ : ∃ n, n = ((byDueL l).filter (isDue l (dueOf l (byDueL l)[p]))).length := ⟨_, rfl⟩
  rw [← hn] at hf
  have hmem : (byDueL l)[p] ∈ (byDueL l).take n := by
    rw [← hf]
    exact List.mem_filter.2 ⟨List.getElem_mem hp, decide_eq_true (Int.le_refl _)⟩
  have hnl : n ≤ (byDueL l).length := by rw [hn]; exact List.length_filter_le _ _
  have hpn : p < n := by
    obtain ⟨q, hq, e⟩ := List.getElem_of_mem hmem
    rw [List.getElem_take] at e
    have hq' : q < n := by simp at hq; omega
    have := nodup_inj (byDueL_nodup l) (by omega) hp e
    omega
  refine ⟨n - 1, by omega, ?_, ?_⟩
  · have h1 : dueOf l (byDueL l)[n - 1] ≤ dueOf l (byDueL l)[p] := by
      have : (byDueL l)[n - 1] ∈ (byDueL l).take n := by
        rw [List.mem_iff_getElem]
        exact ⟨n - 1, by simp; omega, by rw [List.getElem_take]⟩
      rw [← hf] at this
      exact of_decide_eq_true (List.mem_filter.1 this).2
    have h2 : dueOf l (byDueL l)[p] ≤ dueOf l (byDueL l)[n - 1] := by
      by_cases hpq : p = n - 1
      · subst hpq; exact Int.le_refl _
      · exact List.pairwise_iff_getElem.1 hs p (n - 1) hp (by omega) (by omega)
    omega
  · rw [show n - 1 + 1 = n by omega, ← hf]

theorem maxTo_ge (xs : List Int) : ∀ k j, j ≤ k → rd xs (j : Nat) ≤ maxTo xs k
  | 0, j, h => by obtain rfl : j = 0 := by omega
                  exact Int.le_refl _
  | k + 1, j, h => by
    rw [maxTo_mx]
    unfold mx
    by_cases hj : j = k + 1
    · subst hj; split <;> omega
    · have := maxTo_ge xs k j (by omega)
      split <;> omega
theorem maxTo_at (xs : List Int) : ∀ k, ∃ j, j ≤ k ∧ maxTo xs k = rd xs (j : Nat)
  | 0 => ⟨0, Nat.le_refl _, rfl⟩
  | k + 1 => by
    obtain ⟨j, hj, e⟩ := maxTo_at xs k
    rw [maxTo_mx]
    unfold mx
    split
    · exact ⟨k + 1, Nat.le_refl _, rfl⟩
    · exact ⟨j, by omega, e⟩
theorem tight_go (b : Int → Int) : ∀ (ds pre : List Int) (x : Int), x ∈ pre → (∀ d ∈ pre, b d ≤ b x) → (∀ d ∈ pre, d < x → b d < b x) → (pre ++ ds).Pairwise (· < ·) →
    ∃ x', ds.foldl (tightStep b) (some (x, b x)) = some (x', b x') ∧ x' ∈ pre ++ ds ∧ (∀ d ∈ pre ++ ds, b d ≤ b x') ∧ (∀ d ∈ pre ++ ds, d < x' → b d < b x')
  | [], pre, x, h1, h2, h3, _ => ⟨x, rfl, by simpa using h1, by simpa using h2, by simpa using h3⟩
  | y :: r, pre, x, h1, h2, h3, h4 => by
    have e : pre ++ y :: r = (pre ++ [y]) ++ r := by simp
    have hlt : ∀ d ∈ pre, d < y := fun d hd => (List.pairwise_append.1 h4).2.2 d hd y (by simp)
    rw [e] at h4 ⊢
    rw [List.foldl_cons]
    by_cases hc : b x < b y
    · have es : tightStep b (some (x, b x)) y = some (y, b y) := if_pos hc
      rw [es]
      refine tight_go b r (pre ++ [y]) y (by simp) ?_ ?_ h4
      · intro d hd
        rcases List.mem_append.1 hd with hd | hd
        · have := h2 d hd; omega
        · simp at hd; subst hd; exact Int.le_refl _
      · intro d hd hdy
        rcases List.mem_append.1 hd with hd | hd
        · have := h2 d hd; omega
        · simp at hd; omega
    · have es : tightStep b (some (x, b x)) y = some (x, b x) := if_neg hc
      rw [es]
      refine tight_go b r (pre ++ [y]) x (by simp [h1]) ?_ ?_ h4
      · intro d hd
        rcases List.mem_append.1 hd with hd | hd
        · exact h2 d hd
        · simp at hd; subst hd; omega
      · intro d hd hdx
        rcases List.mem_append.1 hd with hd | hd
        · exact h3 d hd hdx
        · simp at hd; subst hd
          have := hlt x h1
          omega
theorem tight_spec (b : Int → Int) (ds : List Int) (hne : ds ≠ []) (hp : ds.Pairwise (· < ·)) : ∃ x, tightF b ds = some (x, b x) ∧ x ∈ ds ∧ (∀ d ∈ ds, b d ≤ b x) ∧ (∀ d ∈ ds, d < x → b d < b x) := by
  cases ds with
  | nil => exact absurd rfl hne
  | cons y r =>
    have := tight_go b r [y] y (by simp) (by simp) (by intro d hd h; simp at hd; omega) hp
    exact this
end Go.Proofs.Ytmlahfidnfdhbaa.Pr
