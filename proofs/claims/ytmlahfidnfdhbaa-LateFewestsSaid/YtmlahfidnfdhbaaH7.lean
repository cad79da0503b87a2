import Derived.Test.YtmlahfidnfdhbaaH4
set_option linter.unusedSimpArgs false
set_option linter.unusedVariables false
namespace Go.Proofs.Ytmlahfidnfdhbaa.Pr
open Go.RowKit Go.Proofs.YtmlahfidnfdhbaaW.PrintWords Go.Proofs.YtmlahfidnfdhbaaW.PrintLast Go.Proofs.YtmlahfidnfdhbaaW.PrintMore

/-- Orders that can be kept, out of some: with one that has to be, and without another one. -/
def cand (l : List S58) (ws : List Int) (a1 a2 : Int) (xs K : List Int) : Prop := K.Sublist xs ∧ ¬ a2 ∈ K ∧ (a1 ∈ xs → a1 ∈ K) ∧ feas l ws K
structure DP (l : List S58) (ws : List Int) (a1 a2 : Int) (xs ls : List Int) : Prop where
  up : ∀ K, cand l ws a1 a2 xs K → K.length < ls.length ∧ 0 ≤ rd ls (K.length : Nat) ∧ rd ls (K.length : Nat) ≤ psum ws K
  ex : ∀ n, n < ls.length → 0 ≤ rd ls (n : Nat) → ∃ K, cand l ws a1 a2 xs K ∧ K.length = n ∧ psum ws K = rd ls (n : Nat)
theorem mostEntry_zero (isW : Bool) (wi due : Int) (ls : List Int) : mostEntry isW wi due ls 0 = mostKeep isW ls 0 := rfl
theorem mostEntry_succ (isW : Bool) (wi due : Int) (ls : List Int) (m : Nat) : mostEntry isW wi due ls (m + 1) = mostTake wi due (rd ls (m : Nat)) (mostKeep isW ls (m + 1)) := rfl
theorem nextTo_at (isW : Bool) (wi due : Int) (ls : List Int) : ∀ N n, n < N → N ≤ ls.length + 1 → rd (nextTo isW wi due ls N) (n : Nat) = mostEntry isW wi due ls n
  | 0, n, h, _ => by omega
  | N + 1, n, h, hN => by
    have hl := nextTo_len isW wi due ls
    rw [rd_get _ n (by rw [hl]; omega)]
    simp only [nextTo, List.getElem_set]
    by_cases e : N = n
    · subst e; rw [if_pos rfl]
    · rw [if_neg e]
      have := nextTo_at isW wi due ls N n (by omega) (by omega)
      rw [rd_get _ n (by rw [hl]; omega)] at this
      exact this
theorem feas_of_sub {l : List S58} {ws K K' : List Int} (hs : K.Sublist K') (hb : ∀ x ∈ K', 0 ≤ rd ws x) (h : feas l ws K') : feas l ws K := by
  intro i hi
  have := h i (hs.subset hi)
  have := psum_sub ws (List.Sublist.filter (isDue l (dueOf l i)) hs) (fun x hx => hb x (List.mem_filter.1 hx).1)
  omega
theorem sub_snoc {K xs : List Int} {i : Int} (h : K.Sublist (xs ++ [i])) : K.Sublist xs ∨ ∃ K', K'.Sublist xs ∧ K = K' ++ [i] := by
  obtain ⟨K1, K2, rfl, h1, h2⟩ := List.sublist_append_iff.1 h
  cases h2 with
  | cons _ h3 => 
    have := List.sublist_nil.1 h3
    subst this
    exact .inl (by rw [List.append_nil]; exact h1)
  | cons_cons _ h3 => 
    have := List.sublist_nil.1 h3
    subst this
    exact .inr ⟨K1, h1, rfl⟩
theorem dp_out {l : List S58} {ws : List Int} {a1 a2 : Int} {xs ls : List Int} (h : DP l ws a1 a2 xs ls) (h12 : a1 ≠ a2) : DP l ws a1 a2 (xs ++ [a2]) ls := by
  have e : ∀ K, cand l ws a1 a2 (xs ++ [a2]) K ↔ cand l ws a1 a2 xs K := by
    intro K
    constructor
    · rintro ⟨g1, g2, g3, g4⟩
      rcases sub_snoc g1 with h1 | ⟨K', _, rfl⟩
      · exact ⟨h1, g2, fun hx => g3 (List.mem_append_left _ hx), g4⟩
      · exact absurd (by simp) g2
    · rintro ⟨g1, g2, g3, g4⟩
      refine ⟨g1.trans (List.sublist_append_left _ _), g2, fun hx => g3 ?_, g4⟩
      rcases List.mem_append.1 hx with hx | hx
      · exact hx
      · exact absurd (List.mem_singleton.1 hx) h12
  refine ⟨fun K hK => h.up K ((e K).1 hK), fun n hn h0 => ?_⟩
  obtain ⟨K, k1, k2⟩ := h.ex n hn h0
  exact ⟨K, (e K).2 k1, k2⟩
theorem mostTake_cases (wi due p v0 : Int) (hp : p ≤ 100000) (hw : 0 ≤ wi ∧ wi ≤ 100) :
    (mostTake wi due p v0 = v0 ∧ (0 ≤ p → p + wi ≤ due → 0 ≤ v0 ∧ v0 ≤ p + wi)) ∨ (mostTake wi due p v0 = p + wi ∧ 0 ≤ p ∧ p + wi ≤ due ∧ (0 ≤ v0 → p + wi < v0)) := by
  unfold mostTake
  by_cases h1 : p < 0
  · rw [if_pos h1]; exact .inl ⟨rfl, by omega⟩
  · rw [if_neg h1]
    have e : wrap64 (p + wi) = p + wi := by unfold wrap64; omega
    rw [e]
    by_cases h2 : p + wi ≤ due
    · rw [if_pos h2]
      by_cases h3 : v0 < 0
      · rw [if_pos h3]; exact .inr ⟨rfl, by omega, h2, by omega⟩
      · rw [if_neg h3]
        by_cases h4 : p + wi < v0
        · rw [if_pos h4]; exact .inr ⟨rfl, by omega, h2, fun _ => h4⟩
        · rw [if_neg h4]; exact .inl ⟨rfl, by omega⟩
    · rw [if_neg h2]; exact .inl ⟨rfl, by omega⟩
theorem dp_in {l : List S58} {ws : List Int} {a1 a2 i : Int} {xs ls : List Int} (h : DP l ws a1 a2 xs ls) (hi : i ≠ a2) (hS : ByDue l (xs ++ [i])) (hN : (xs ++ [i]).Nodup)
    (hb : ∀ x ∈ xs ++ [i], 0 ≤ rd ws x ∧ rd ws x ≤ 100) (hlen : xs.length ≤ 100) : DP l ws a1 a2 (xs ++ [i]) (nextTo (decide (i = a1)) (rd ws i) (rd_T58 l i).f1 ls (ls.length + 1)) := by
  have hni : ¬ i ∈ xs := fun hm => (List.nodup_append.1 hN).2.2 i hm i (by simp) rfl
  have hbi := hb i (by simp)
  have hbx : ∀ x ∈ xs, 0 ≤ rd ws x ∧ rd ws x ≤ 100 := fun x hx => hb x (List.mem_append_left _ hx)
  have hat := nextTo_at (decide (i = a1)) (rd ws i) (rd_T58 l i).f1 ls (ls.length + 1)
  have hlenN := nextTo_len (decide (i = a1)) (rd ws i) (rd_T58 l i).f1 ls (ls.length + 1)
  have hd : dueOf l i = (rd_T58 l i).f1 := rfl
  have hpb : ∀ n, n < ls.length → rd ls (n : Nat) ≤ 100000 := by
    intro n hn
    by_cases h0 : 0 ≤ rd ls (n : Nat)
    · obtain ⟨K, k1, _, k3⟩ := h.ex n hn h0
      have := psum_bound ws K (fun x hx => hbx x (k1.1.subset hx))
      have := k1.1.length_le
      omega
    · omega
  have hsn : ∀ K', K'.Sublist xs → feas l ws K' → (feas l ws (K' ++ [i]) ↔ psum ws K' + rd ws i ≤ (rd_T58 l i).f1) := by
    intro K' hK' hf
    have hss : (K' ++ [i]).Sublist (xs ++ [i]) := hK'.append (List.Sublist.refl _)
    have := feas_snoc (List.Pairwise.sublist hss hS) (hss.nodup hN) (fun x hx => (hb x (hss.subset hx)).1) hf
    rw [psum_append, psum_cons, psum_nil, Int.add_zero, hd] at this
    exact this
  constructor
  · rintro K ⟨g1, g2, g3, g4⟩
    rw [hlenN]
    rcases sub_snoc g1 with hx | ⟨K', hK', rfl⟩
    · have hia : i ≠ a1 := by
        intro e
        exact hni (hx.subset (e ▸ g3 (by rw [← e]; simp)))
      obtain ⟨u1, u2, u3⟩ := h.up K ⟨hx, g2, fun hm => g3 (List.mem_append_left _ hm), g4⟩
      refine ⟨by omega, ?_⟩
      rw [hat K.length (by omega) (Nat.le_refl _)]
      have hk : mostKeep (decide (i = a1)) ls K.length = rd ls (K.length : Nat) := by
        unfold mostKeep
        rw [decide_eq_false hia, if_pos rfl, if_pos u1]
      cases hn : K.length with
      | zero =>
        rw [hn] at hk u2 u3
        rw [mostEntry_zero, hk]; exact ⟨u2, u3⟩
      | succ m =>
        rw [hn] at hk u1 u2 u3
        rw [mostEntry_succ, hk]
        rcases mostTake_cases (rd ws i) (rd_T58 l i).f1 (rd ls (m : Nat)) (rd ls ((m + 1 : Nat) : Int)) (hpb m (by omega)) hbi with ⟨e, _⟩ | ⟨e, t1, t2, t3⟩
        · rw [e]; exact ⟨u2, u3⟩
        · rw [e]
          have := t3 u2
          omega
    · have hfK : feas l ws K' := feas_of_sub (List.sublist_append_left _ _) (fun x hx => (hb x (g1.subset hx)).1) g4
      have hps := (hsn K' hK' hfK).1 g4
      obtain ⟨u1, u2, u3⟩ := h.up K' ⟨hK', fun hm => g2 (List.mem_append_left _ hm), fun hm => by
        rcases List.mem_append.1 (g3 (List.mem_append_left _ hm)) with h | h
        · exact h
        · exact absurd (List.mem_singleton.1 h ▸ hm) hni, hfK⟩
      rw [List.length_append, List.length_singleton]
      refine ⟨by omega, ?_⟩
      rw [hat (K'.length + 1) (by omega) (Nat.le_refl _), psum_append, psum_cons, psum_nil]
      rw [mostEntry_succ]
      rcases mostTake_cases (rd ws i) (rd_T58 l i).f1 (rd ls (K'.length : Nat)) (mostKeep (decide (i = a1)) ls (K'.length + 1)) (hpb _ u1) hbi with ⟨e, t1⟩ | ⟨e, t1, t2, t3⟩
      · rw [e]
        have := t1 u2 (by omega)
        omega
      · rw [e]; omega
  · intro n hn h0
    rw [hlenN] at hn
    rw [hat n hn (Nat.le_refl _)] at h0 ⊢
    have keep : 0 ≤ mostKeep (decide (i = a1)) ls n → ∃ K, cand l ws a1 a2 (xs ++ [i]) K ∧ K.length = n ∧ psum ws K = mostKeep (decide (i = a1)) ls n := by
      intro hk
      unfold mostKeep at hk ⊢
      by_cases hia : i = a1
      · rw [decide_eq_true hia, if_neg (by simp)] at hk; omega
      · rw [decide_eq_false hia, if_pos rfl] at hk ⊢
        by_cases hnl : n < ls.length
        · rw [if_pos hnl] at hk ⊢
          obtain ⟨K, ⟨k1, k2, k3, k4⟩, k5, k6⟩ := h.ex n hnl hk
          refine ⟨K, ⟨k1.trans (List.sublist_append_left _ _), k2, fun hm => k3 ?_, k4⟩, k5, k6⟩
          rcases List.mem_append.1 hm with hm | hm
          · exact hm
          · exact absurd (List.mem_singleton.1 hm).symm hia
        · rw [if_neg hnl] at hk; omega
    cases n with
    | zero => 
      rw [mostEntry_zero] at h0 ⊢
      exact keep h0
    | succ m =>
      rw [mostEntry_succ] at h0 ⊢
      rcases mostTake_cases (rd ws i) (rd_T58 l i).f1 (rd ls (m : Nat)) (mostKeep (decide (i = a1)) ls (m + 1)) (hpb m (by omega)) hbi with ⟨e, _⟩ | ⟨e, t1, t2, _⟩
      · rw [e] at h0 ⊢; exact keep h0
      · rw [e]
        obtain ⟨K, ⟨k1, k2, k3, k4⟩, k5, k6⟩ := h.ex m (by omega) t1
        refine ⟨K ++ [i], ⟨k1.append (List.Sublist.refl _), fun hm => ?_, fun hm => ?_, (hsn K k1 k4).2 (by omega)⟩, by simp [k5], by rw [psum_append, psum_cons, psum_nil]; omega⟩
        · rcases List.mem_append.1 hm with hm | hm
          · exact k2 hm
          · exact hi (List.mem_singleton.1 hm).symm
        · rcases List.mem_append.1 hm with hm | hm
          · exact List.mem_append_left _ (k3 hm)
          · exact List.mem_append_right _ hm
theorem lastOk_spec (ls : List Int) : ∀ n, (lastOk ls n = -1 ∧ ∀ j, j < n → rd ls (j : Nat) < 0) ∨ (∃ m, m < n ∧ lastOk ls n = (m : Int) ∧ 0 ≤ rd ls (m : Nat) ∧ ∀ j, m < j → j < n → rd ls (j : Nat) < 0)
  | 0 => .inl ⟨rfl, fun j h => by omega⟩
  | n + 1 => by
    unfold lastOk
    by_cases h : rd ls (n : Nat) < 0
    · rw [if_pos h]
      rcases lastOk_spec ls n with ⟨e, g⟩ | ⟨m, h1, h2, h3, h4⟩
      · refine .inl ⟨e, fun j hj => ?_⟩
        by_cases hjn : j = n
        · rw [hjn]; exact h
        · exact g j (by omega)
      · refine .inr ⟨m, by omega, h2, h3, fun j hj hj2 => ?_⟩
        by_cases hjn : j = n
        · rw [hjn]; exact h
        · exact h4 j hj (by omega)
    · rw [if_neg h]
      exact .inr ⟨n, by omega, rfl, by omega, fun j h1 h2 => by omega⟩
theorem dp_all {l : List S58} {side : Int} (h : checkO l = 0) (hs : side = 0 ∨ side = 1) (a1 a2 : Int) (h12 : a1 ≠ a2 ∨ (a1 = -1 ∧ a2 = -1)) : ∀ k, k ≤ (byDueL l).length → DP l (worksOf side l) a1 a2 ((byDueL l).take k) (((byDueL l).take k).foldl (mostStep l (worksOf side l) a1 a2) [0])
  | 0, _ => by
    refine ⟨fun K hK => ?_, fun n hn h0 => ?_⟩
    · have : K = [] := List.sublist_nil.1 (by simpa using hK.1)
      subst this
      refine ⟨by simp, ?_, ?_⟩ <;> simp [psum_nil, rd]
    · have hn0 : n = 0 := by simp at hn; omega
      subst hn0
      exact ⟨[], ⟨by simp, by simp, by simp, fun i hi => by cases hi⟩, rfl, by simp [psum_nil, rd]⟩
  | k + 1, hk => by
    have ih := dp_all h hs a1 a2 h12 k (by omega)
    have hlen := byDueL_len l
    have hl := checkO_len h
    rw [mostLs_take l _ a1 a2 k (by omega)]
    have hsub : ((byDueL l).take k ++ [rd (byDueL l) (k : Nat)]) = (byDueL l).take (k + 1) := by
      rw [List.take_succ_eq_append_getElem (show k < (byDueL l).length by omega), rd_get _ k (by omega)]
    have hss : ((byDueL l).take k ++ [rd (byDueL l) (k : Nat)]).Sublist (byDueL l) := by rw [hsub]; exact List.take_sublist _ _
    have hmem : rd (byDueL l) (k : Nat) ∈ byDueL l := hss.subset (by simp)
    have hrg := byDueL_range l _ hmem
    rw [← hsub]
    by_cases hi : rd (byDueL l) (k : Nat) = a2
    · rw [hi, mostStep_out]
      exact dp_out ih (by omega)
    · rw [mostStep_in _ _ _ _ _ _ hi]
      refine dp_in ih hi (List.Pairwise.sublist hss (byDueL_sorted l)) (hss.nodup (byDueL_nodup l)) (fun x hx => ?_) (by rw [List.length_take]; omega)
      have := byDueL_range l x (hss.subset hx)
      have := rd_works_bound h hs x this.1 this.2
      omega
/-- How many orders can be kept. -/
theorem mostOf_spec {l : List S58} {side : Int} (h : checkO l = 0) (hs : side = 0 ∨ side = 1) (a1 a2 : Int) (h12 : a1 ≠ a2 ∨ (a1 = -1 ∧ a2 = -1)) :
    (∀ K, cand l (worksOf side l) a1 a2 (byDueL l) K → (K.length : Int) ≤ mostOf l (worksOf side l) a1 a2) ∧ (mostOf l (worksOf side l) a1 a2 = -1 ∨ ∃ K, cand l (worksOf side l) a1 a2 (byDueL l) K ∧ (K.length : Int) = mostOf l (worksOf side l) a1 a2) := by
  have hD := dp_all h hs a1 a2 h12 (byDueL l).length (Nat.le_refl _)
  rw [List.take_length] at hD
  unfold mostOf
  have e : mostLs l (worksOf side l) a1 a2 = (byDueL l).foldl (mostStep l (worksOf side l) a1 a2) [0] := rfl
  rw [← e] at hD
  generalize mostLs l (worksOf side l) a1 a2 = ls at *
  rcases lastOk_spec ls ls.length with ⟨e, g⟩ | ⟨m, h1, h2, h3, h4⟩
  · refine ⟨fun K hK => ?_, .inl e⟩
    obtain ⟨u1, u2, _⟩ := hD.up K hK
    have := g _ u1
    omega
  · refine ⟨fun K hK => ?_, .inr ?_⟩
    · obtain ⟨u1, u2, _⟩ := hD.up K hK
      by_cases hm : m < K.length
      · have := h4 _ hm u1
        omega
      · omega
    · obtain ⟨K, k1, k2, _⟩ := hD.ex m h1 h3
      exact ⟨K, k1, by omega⟩
end Go.Proofs.Ytmlahfidnfdhbaa.Pr
