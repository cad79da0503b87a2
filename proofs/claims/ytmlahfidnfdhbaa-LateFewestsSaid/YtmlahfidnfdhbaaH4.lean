import Derived.Test.YtmlahfidnfdhbaaH2
set_option linter.unusedSimpArgs false
set_option linter.unusedVariables false
namespace Go.Proofs.Ytmlahfidnfdhbaa.Pr
open Go.RowKit Go.Proofs.YtmlahfidnfdhbaaW.PrintWords Go.Proofs.YtmlahfidnfdhbaaW.PrintLast Go.Proofs.YtmlahfidnfdhbaaW.PrintMore

theorem feas_snoc {l : List S58} {ws K : List Int} {i : Int} (hs : ByDue l (K ++ [i])) (hn : (K ++ [i]).Nodup) (hb : ∀ x ∈ K ++ [i], 0 ≤ rd ws x) (hK : feas l ws K) : feas l ws (K ++ [i]) ↔ psum ws (K ++ [i]) ≤ dueOf l i := by
  have hsK : ByDue l K := List.Pairwise.sublist (List.sublist_append_left _ _) hs
  have hnK : K.Nodup := (List.sublist_append_left _ _).nodup hn
  have hfK := (feas_iff hsK hnK (fun x hx => hb x (List.mem_append_left _ hx))).1 hK
  rw [feas_iff hs hn hb]
  constructor
  · intro h
    have := h K.length (by simp)
    rw [List.take_of_length_le (by simp)] at this
    simpa using this
  · intro h p hp
    by_cases hpK : p < K.length
    · have := hfK p hpK
      rw [List.take_append_of_le_length (by omega), List.getElem_append_left hpK]
      exact this
    · have hp2 : p < K.length + 1 := by simpa using hp
      obtain rfl : p = K.length := by omega
      rw [List.take_of_length_le (by simp)]
      simpa using h
theorem feas_erase {l : List S58} {ws K : List Int} {i m : Int} (hs : ByDue l (K ++ [i])) (hb : ∀ x ∈ K ++ [i], 0 ≤ rd ws x) (hK : feas l ws K) (hm : m ∈ K ++ [i]) (hmx : ∀ x ∈ K ++ [i], rd ws x ≤ rd ws m) : feas l ws ((K ++ [i]).erase m) := by
  have hp : (K ++ [i]).Perm (m :: (K ++ [i]).erase m) := List.perm_cons_erase hm
  have hsum : psum ws (K ++ [i]) = rd ws m + psum ws ((K ++ [i]).erase m) := by rw [psum_perm hp, psum_cons]
  have hi := hmx i (by simp)
  rw [psum_append, psum_cons, psum_nil] at hsum
  have hle : psum ws ((K ++ [i]).erase m) ≤ psum ws K := by omega
  have hpw := List.pairwise_append.1 hs
  intro e he
  have hnn : ∀ x ∈ (K ++ [i]).erase m, 0 ≤ rd ws x := fun x hx => hb x (List.erase_sublist.subset hx)
  have hsub : psum ws (((K ++ [i]).erase m).filter (isDue l (dueOf l e))) ≤ psum ws ((K ++ [i]).erase m) := psum_sub ws List.filter_sublist hnn
  have hemem := List.erase_sublist.subset he
  by_cases hd : dueOf l i ≤ dueOf l e
  · -- all of them are due by then
    have hkk : ∀ z ∈ K, dueOf l z ≤ dueOf l i := fun z hz => hpw.2.2 z hz i (by simp)
    by_cases hK0 : K = []
    · subst hK0
      simp only [List.nil_append, List.mem_singleton] at hm
      subst hm
      simp at he
    · obtain ⟨z, hz⟩ : ∃ z, z = K.getLast hK0 := ⟨_, rfl⟩
      have hzK : z ∈ K := by rw [hz]; exact List.getLast_mem hK0
      have h1 := hK z hzK
      have hall : K.filter (isDue l (dueOf l z)) = K := by
        rw [List.filter_eq_self]
        intro x hx
        refine decide_eq_true ?_
        have hx2 : x ∈ K.dropLast ++ [z] := by rw [hz, List.dropLast_concat_getLast]; exact hx
        have hpl : (K.dropLast ++ [z]).Pairwise (fun x y => dueOf l x ≤ dueOf l y) := by rw [hz, List.dropLast_concat_getLast]; exact hpw.1
        rcases List.mem_append.1 hx2 with h | h
        · exact (List.pairwise_append.1 hpl).2.2 x h z (by simp)
        · rw [List.mem_singleton.1 h]; exact Int.le_refl _
      rw [hall] at h1
      have := hkk z hzK
      omega
  · have heK : e ∈ K := by
      rcases List.mem_append.1 hemem with h | h
      · exact h
      · rw [List.mem_singleton.1 h] at hd; exact absurd (Int.le_refl _) hd
    have h1 := hK e heK
    have hf : (K ++ [i]).filter (isDue l (dueOf l e)) = K.filter (isDue l (dueOf l e)) := by
      rw [List.filter_append]
      have : [i].filter (isDue l (dueOf l e)) = [] := by
        rw [List.filter_cons_of_neg (by unfold isDue; simp; omega)]; rfl
      rw [this, List.append_nil]
    have hs2 : psum ws (((K ++ [i]).erase m).filter (isDue l (dueOf l e))) ≤ psum ws ((K ++ [i]).filter (isDue l (dueOf l e))) :=
      psum_sub ws (List.Sublist.filter _ List.erase_sublist) (fun x hx => hb x (List.mem_filter.1 hx).1)
    rw [hf] at hs2
    omega
theorem erase_at (y : List Int) (hn : y.Nodup) (b : Nat) (hb : b < y.length) : y.erase y[b] = y.take b ++ y.drop (b + 1) := by
  induction y generalizing b with
  | nil => simp at hb
  | cons a r ih =>
    cases b with
    | zero => simp
    | succ b =>
      have hb2 : b < r.length := by simpa using hb
      have hne : a ≠ r[b] := fun e => (List.nodup_cons.1 hn).1 (e ▸ List.getElem_mem hb2)
      simp only [List.getElem_cons_succ, List.take_succ_cons, List.drop_succ_cons, List.cons_append]
      rw [List.erase_cons_tail (by simpa using hne), ih (List.nodup_cons.1 hn).2 b hb2]
end Go.Proofs.Ytmlahfidnfdhbaa.Pr
