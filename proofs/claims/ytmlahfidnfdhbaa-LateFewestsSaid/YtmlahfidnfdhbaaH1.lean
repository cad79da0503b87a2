import Derived.Test.YtmlahfidnfdhbaaF9
import Derived.Test.YtmlahfidnfdhbaaRH
set_option linter.unusedSimpArgs false
set_option linter.unusedVariables false
namespace Go.Proofs.Ytmlahfidnfdhbaa.Pr
open Go.RowKit Go.Proofs.YtmlahfidnfdhbaaW.PrintWords Go.Proofs.YtmlahfidnfdhbaaW.PrintLast Go.Proofs.YtmlahfidnfdhbaaW.PrintMore

/-- Orders can be kept: of none is there more to do by its Due than its Due allows. -/
def feas (l : List S58) (ws K : List Int) : Prop := ∀ i ∈ K, psum ws (K.filter (isDue l (dueOf l i))) ≤ dueOf l i
instance (l : List S58) (ws K : List Int) : Decidable (feas l ws K) := by unfold feas; infer_instance
theorem feas_perm {l : List S58} {ws K K' : List Int} (h : K.Perm K') : feas l ws K ↔ feas l ws K' := by
  unfold feas
  constructor
  · intro g i hi
    rw [← psum_perm (h.filter _)]
    exact g i (h.mem_iff.2 hi)
  · intro g i hi
    rw [psum_perm (h.filter _)]
    exact g i (h.mem_iff.1 hi)
theorem pre_le {l : List S58} {ws K : List Int} (hs : ByDue l K) (hb : ∀ x ∈ K, 0 ≤ rd ws x) (p : Nat) (hp : p < K.length) : psum ws (K.take (p + 1)) ≤ psum ws (K.filter (isDue l (dueOf l K[p]))) := by
  have e : (K.take (p + 1)).filter (isDue l (dueOf l K[p])) = K.take (p + 1) := by
    rw [List.filter_eq_self]
    intro x hx
    obtain ⟨q, hq, rfl⟩ := List.getElem_of_mem hx
    have hq' : q < p + 1 := by simp at hq; omega
    rw [List.getElem_take]
    unfold isDue
    rw [decide_eq_true_iff]
    by_cases hqp : q = p
    · subst hqp; exact Int.le_refl _
    · exact List.pairwise_iff_getElem.1 hs q p (by omega) hp (by omega)
  rw [← e]
  exact psum_sub ws (List.Sublist.filter _ (List.take_sublist _ _)) (fun x hx => hb x (List.mem_filter.1 hx).1)
theorem pre_eq {l : List S58} {ws K : List Int} (hs : ByDue l K) (hn : K.Nodup) (p : Nat) (hp : p < K.length) : ∃ q, ∃ hq : q < K.length, dueOf l K[q] = dueOf l K[p] ∧ psum ws (K.take (q + 1)) = psum ws (K.filter (isDue l (dueOf l K[p]))) := by
  have hf := filter_take l (dueOf l K[p]) K hs
  obtain ⟨n, hnn⟩ : ∃ n, n = (K.filter (isDue l (dueOf l K[p]))).length := ⟨_, rfl⟩
  rw [← hnn] at hf
  have hmem : K[p] ∈ K.take n := by
    rw [← hf]
    exact List.mem_filter.2 ⟨List.getElem_mem hp, decide_eq_true (Int.le_refl _)⟩
  have hnl : n ≤ K.length := by rw [hnn]; exact List.length_filter_le _ _
  have hpn : p < n := by
    obtain ⟨q, hq, e⟩ := List.getElem_of_mem hmem
    rw [List.getElem_take] at e
    have hq' : q < n := by simp at hq; omega
    have := nodup_inj hn (by omega) hp e
    omega
  refine ⟨n - 1, by omega, ?_, ?_⟩
  · have h1 : dueOf l K[n - 1] ≤ dueOf l K[p] := by
      have : K[n - 1] ∈ K.take n := by
        rw [List.mem_iff_getElem]
        exact ⟨n - 1, by simp; omega, by rw [List.getElem_take]⟩
      rw [← hf] at this
      exact of_decide_eq_true (List.mem_filter.1 this).2
    have h2 : dueOf l K[p] ≤ dueOf l K[n - 1] := by
      by_cases hpq : p = n - 1
      · subst hpq; exact Int.le_refl _
      · exact List.pairwise_iff_getElem.1 hs p (n - 1) hp (by omega) (by omega)
    omega
  · rw [show n - 1 + 1 = n by omega, ← hf]
/-- .. one after another, by their Due. -/
theorem feas_iff {l : List S58} {ws K : List Int} (hs : ByDue l K) (hn : K.Nodup) (hb : ∀ x ∈ K, 0 ≤ rd ws x) : feas l ws K ↔ ∀ p (hp : p < K.length), psum ws (K.take (p + 1)) ≤ dueOf l K[p] := by
  constructor
  · intro h p hp
    have := pre_le hs hb p hp
    have := h K[p] (List.getElem_mem hp)
    omega
  · intro h i hi
    obtain ⟨p, hp, rfl⟩ := List.getElem_of_mem hi
    obtain ⟨q, hq, e1, e2⟩ := pre_eq (ws := ws) hs hn p hp
    have := h q hq
    rw [e2] at this
    omega

/-! what the program does: one after another of those that are kept -/
theorem scan_iff (l : List S58) (ws kept : List Int) : ∀ (xs : List Int) (day : Int), 0 ≤ day → day + 100 * xs.length ≤ 1000000 → (∀ x ∈ xs, 0 ≤ rd ws x ∧ rd ws x ≤ 100) →
    (scan l ws kept day xs = true ↔ ∀ p (hp : p < (xs.filter (fun i => kept.contains i)).length), day + psum ws ((xs.filter (fun i => kept.contains i)).take (p + 1)) ≤ dueOf l (xs.filter (fun i => kept.contains i))[p])
  | [], day, _, _, _ => by simp [scan]
  | x :: r, day, h0, h1, hb => by
    have hbx := hb x (by simp)
    have hbr := fun y hy => hb y (List.mem_cons_of_mem x hy)
    simp only [List.length_cons] at h1
    by_cases hc : kept.contains x = true
    · have hf : (x :: r).filter (fun i => kept.contains i) = x :: r.filter (fun i => kept.contains i) := List.filter_cons_of_pos hc
      have hw : wrap64 (day + rd ws x) = day + rd ws x := by unfold wrap64; omega
      have ih := scan_iff l ws kept r (day + rd ws x) (by omega) (by omega) hbr
      have es : scan l ws kept day (x :: r) = (if (rd_T58 l x).f1 < day + rd ws x then false else scan l ws kept (day + rd ws x) r) := by
        simp only [scan]; rw [if_pos hc, hw]
      rw [es]
      simp only [hf]
      by_cases hd : (rd_T58 l x).f1 < day + rd ws x
      · rw [if_pos hd]
        constructor
        · intro h; cases h
        · intro h
          have := h 0 (by simp)
          simp [psum_cons, psum_nil, dueOf] at this
          omega
      · rw [if_neg hd, ih]
        constructor
        · intro h p hp
          cases p with
          | zero => simp [psum_cons, psum_nil, dueOf]; omega
          | succ p =>
            have := h p (by simpa using hp)
            rw [List.take_succ_cons, psum_cons]
            simp only [List.getElem_cons_succ]
            omega
        · intro h p hp
          have := h (p + 1) (by simpa using hp)
          rw [List.take_succ_cons, psum_cons] at this
          simp only [List.getElem_cons_succ] at this
          omega
    · have hf : (x :: r).filter (fun i => kept.contains i) = r.filter (fun i => kept.contains i) := List.filter_cons_of_neg hc
      have es : scan l ws kept day (x :: r) = scan l ws kept day r := by simp only [scan]; rw [if_neg hc]
      have ih := scan_iff l ws kept r day h0 (by omega) hbr
      rw [es]
      simp only [hf]
      exact ih
end Go.Proofs.Ytmlahfidnfdhbaa.Pr
