import Derived.Test.YtmlahfidnfdhbaaF5
set_option linter.unusedSimpArgs false
set_option linter.unusedVariables false
namespace Go.Proofs.Ytmlahfidnfdhbaa.Pr
open Go.RowKit Go.Proofs.YtmlahfidnfdhbaaW.PrintWords Go.Proofs.YtmlahfidnfdhbaaW.PrintLast Go.Proofs.YtmlahfidnfdhbaaW.PrintMore

def dueOf (l : List S58) (i : Int) : Int := (rd_T58 l i).f1
def ByDue (l : List S58) (xs : List Int) : Prop := xs.Pairwise (fun x y => dueOf l x ≤ dueOf l y)

theorem swap_mid (A C : List Int) (a x : Int) : swapAt (A ++ a :: x :: C) A.length = A ++ x :: a :: C := by
  unfold swapAt
  have e0 : rd (A ++ a :: x :: C) (A.length : Nat) = a := by rw [rd_get _ _ (by simp)]; simp
  have e1 : rd (A ++ a :: x :: C) ((A.length : Int) + 1) = x := by
    have := rd_get (A ++ a :: x :: C) (A.length + 1) (by simp)
    rw [show (((A.length + 1 : Nat)) : Int) = (A.length : Int) + 1 from rfl] at this
    rw [this]; simp
  rw [e0, e1]
  simp
theorem insDown_sorted (l : List S58) (x : Int) : ∀ (n : Nat) (A C : List Int), A.length = n → ByDue l (A ++ C) → (∀ c ∈ C, dueOf l x ≤ dueOf l c) → ByDue l (insDown (dueCmp l) n (A ++ x :: C))
  | 0, A, C, hA, h, hc => by
    obtain rfl : A = [] := List.eq_nil_of_length_eq_zero hA
    unfold insDown
    exact List.pairwise_cons.2 ⟨hc, h⟩
  | n + 1, A, C, hA, h, hc => by
    obtain ⟨A', a, rfl⟩ : ∃ A' a, A = A' ++ [a] := ⟨A.dropLast, A.getLast (by intro e; rw [e] at hA; simp at hA), (List.dropLast_concat_getLast _).symm⟩
    have hA' : A'.length = n := by simpa using hA
    subst hA'
    have e0 : rd (A' ++ [a] ++ x :: C) (A'.length : Nat) = a := by rw [rd_get _ _ (by simp)]; simp
    have e1 : rd (A' ++ [a] ++ x :: C) ((A'.length : Int) + 1) = x := by
      have := rd_get (A' ++ [a] ++ x :: C) (A'.length + 1) (by simp)
      rw [show (((A'.length + 1 : Nat)) : Int) = (A'.length : Int) + 1 from rfl] at this
      rw [this]; simp
    by_cases hlt : dueCmp l (rd (A' ++ [a] ++ x :: C) ((A'.length : Int) + 1)) (rd (A' ++ [a] ++ x :: C) (A'.length : Nat)) < 0
    · rw [insDown_succ_lt _ _ _ hlt]
      rw [e0, e1, dueCmp_lt] at hlt
      have e2 : A' ++ [a] ++ x :: C = A' ++ a :: x :: C := by simp
      rw [e2, swap_mid]
      refine insDown_sorted l x A'.length A' (a :: C) rfl (by simpa using h) ?_
      intro c hcm
      rcases List.mem_cons.1 hcm with rfl | hcm
      · exact Int.le_of_lt hlt
      · exact hc c hcm
    · rw [insDown_succ_ge _ _ _ hlt]
      rw [e0, e1, dueCmp_lt] at hlt
      have hax : dueOf l a ≤ dueOf l x := by unfold dueOf; omega
      have h1 := List.pairwise_append.1 h
      have h2 := List.pairwise_append.1 h1.1
      refine List.pairwise_append.2 ⟨h1.1, List.pairwise_cons.2 ⟨hc, h1.2.1⟩, fun u hu v hv => ?_⟩
      have hua : dueOf l u ≤ dueOf l a := by
        rcases List.mem_append.1 hu with hu | hu
        · exact h2.2.2 u hu a (by simp)
        · simp at hu; subst hu; exact Int.le_refl _
      rcases List.mem_cons.1 hv with rfl | hv
      · omega
      · exact h1.2.2 u hu v hv
theorem seqTo_sorted (l : List S58) : ∀ k, ByDue l (seqTo l k)
  | 0 => by unfold seqTo ByDue; simp [insTo, iota]
  | k + 1 => by
    rw [seqTo_succ]
    have := insDown_sorted l (k : Int) k (seqTo l k) [] (seqTo_len l k) (by simpa using seqTo_sorted l k) (by simp)
    exact this
theorem byDueL_sorted (l : List S58) : ByDue l (byDueL l) := seqTo_sorted l l.length

/-! days -/
theorem days_mem (l : List S58) : ∀ (xs : List Int) (last : Int), ByDue l xs → (∀ i ∈ xs, last ≤ dueOf l i) →
    (∀ i ∈ xs, dueOf l i = last ∨ dueOf l i ∈ daysFrom l last xs) ∧ (∀ d ∈ daysFrom l last xs, last < d ∧ ∃ i ∈ xs, dueOf l i = d) ∧ (daysFrom l last xs).Pairwise (· < ·)
  | [], last, _, _ => by simp [daysFrom]
  | x :: r, last, hs, hb => by
    obtain ⟨h1, h2⟩ := List.pairwise_cons.1 hs
    by_cases hx : last < dueOf l x
    · have e : daysFrom l last (x :: r) = dueOf l x :: daysFrom l (dueOf l x) r := if_pos hx
      obtain ⟨g1, g2, g3⟩ := days_mem l r (dueOf l x) h2 h1
      rw [e]
      refine ⟨fun i hi => ?_, fun d hd => ?_, List.pairwise_cons.2 ⟨fun d hd => (g2 d hd).1, g3⟩⟩
      · rcases List.mem_cons.1 hi with rfl | hi
        · exact .inr (by simp)
        · rcases g1 i hi with e | e
          · exact .inr (by rw [e]; simp)
          · exact .inr (List.mem_cons_of_mem _ e)
      · rcases List.mem_cons.1 hd with rfl | hd
        · exact ⟨hx, x, by simp, rfl⟩
        · obtain ⟨q1, i, hi, q2⟩ := g2 d hd
          exact ⟨by omega, i, by simp [hi], q2⟩
    · have e : daysFrom l last (x :: r) = daysFrom l last r := if_neg hx
      have hxl : dueOf l x = last := by have := hb x (by simp); omega
      obtain ⟨g1, g2, g3⟩ := days_mem l r last h2 (fun i hi => hb i (by simp [hi]))
      rw [e]
      refine ⟨fun i hi => ?_, fun d hd => ?_, g3⟩
      · rcases List.mem_cons.1 hi with rfl | hi
        · exact .inl hxl
        · exact g1 i hi
      · obtain ⟨q1, i, hi, q2⟩ := g2 d hd
        exact ⟨q1, i, by simp [hi], q2⟩

/-! sums -/
def psum (ws xs : List Int) : Int := (xs.map (fun i => rd ws i)).sum
theorem psum_nil (ws : List Int) : psum ws [] = 0 := rfl
theorem psum_cons (ws : List Int) (x : Int) (xs : List Int) : psum ws (x :: xs) = rd ws x + psum ws xs := by simp [psum]
theorem psum_append (ws xs ys : List Int) : psum ws (xs ++ ys) = psum ws xs + psum ws ys := by simp [psum, List.sum_append]
theorem psum_perm {ws xs ys : List Int} (h : xs.Perm ys) : psum ws xs = psum ws ys := by
  induction h with
  | nil => rfl
  | cons a _ ih => rw [psum_cons, psum_cons, ih]
  | swap a b l => simp only [psum_cons]; omega
  | trans _ _ ih1 ih2 => rw [ih1, ih2]
theorem psum_bound (ws : List Int) : ∀ (xs : List Int), (∀ x ∈ xs, 0 ≤ rd ws x ∧ rd ws x ≤ 100) → 0 ≤ psum ws xs ∧ psum ws xs ≤ 100 * xs.length
  | [], _ => by simp [psum_nil]
  | x :: r, h => by
    have h1 := psum_bound ws r (fun y hy => h y (by simp [hy]))
    have h2 := h x (by simp)
    rw [psum_cons, List.length_cons]
    omega
theorem psum_sub (ws : List Int) {xs ys : List Int} (h : xs.Sublist ys) (hb : ∀ x ∈ ys, 0 ≤ rd ws x) : psum ws xs ≤ psum ws ys := by
  induction h with
  | slnil => exact Int.le_refl _
  | cons a _ ih =>
    rw [psum_cons]
    have := hb a (by simp)
    have := ih (fun x hx => hb x (by simp [hx]))
    omega
  | cons_cons a _ ih =>
    rw [psum_cons, psum_cons]
    have := ih (fun x hx => hb x (by simp [hx]))
    omega

/-- When each of a sequence ends: the sum of what is worked till then. -/
theorem ends_fold (ws : List Int) : ∀ (s : List Int) (q : Int × List Int), s.Nodup → (∀ x ∈ s, 0 ≤ x ∧ x < q.2.length) → (∀ x ∈ s, 0 ≤ rd ws x ∧ rd ws x ≤ 100) → 0 ≤ q.1 → q.1 + 100 * s.length ≤ 1000000 →
    (∀ p (hp : p < s.length), rd (s.foldl (endsStep ws) q).2 s[p] = q.1 + psum ws (s.take (p + 1))) ∧ (∀ i : Nat, i < q.2.length → (i : Int) ∉ s → rd (s.foldl (endsStep ws) q).2 (i : Nat) = rd q.2 (i : Nat))
  | [], q, _, _, _, _, _ => by simp
  | x :: r, q, hn, hr, hb, h0, h1 => by
    obtain ⟨n1, n2⟩ := List.nodup_cons.1 hn
    have hx := hr x (by simp)
    have hbx := hb x (by simp)
    simp only [List.length_cons] at h1
    have e : wrap64 (q.1 + rd ws x) = q.1 + rd ws x := by unfold wrap64; omega
    have hq : endsStep ws q x = (q.1 + rd ws x, q.2.set x.toNat (q.1 + rd ws x)) := by unfold endsStep; rw [e]
    obtain ⟨g1, g2⟩ := ends_fold ws r (endsStep ws q x) n2 (fun y hy => by have := hr y (by simp [hy]); rw [hq]; simp; exact this) (fun y hy => hb y (by simp [hy])) (by rw [hq]; show 0 ≤ q.1 + rd ws x; omega) (by rw [hq]; show q.1 + rd ws x + _ ≤ _; omega)
    rw [List.foldl_cons]
    refine ⟨fun p hp => ?_, fun i hi hni => ?_⟩
    · cases p with
      | zero =>
        obtain ⟨xn, rfl⟩ := Int.eq_ofNat_of_zero_le hx.1
        have := g2 xn (by rw [hq]; simp; omega) n1
        show rd (r.foldl (endsStep ws) (endsStep ws q xn)).2 (xn : Nat) = _
        rw [this, hq]
        show rd (q.2.set (Int.toNat xn) _) (xn : Nat) = _
        rw [rd_get _ xn (by simp; omega)]
        simp [psum]
      | succ p =>
        have hp' : p < r.length := by simpa using hp
        have := g1 p hp'
        show rd (r.foldl (endsStep ws) (endsStep ws q x)).2 r[p] = _
        rw [this, hq, List.take_succ_cons, psum_cons]
        show q.1 + rd ws x + _ = _
        omega
    · have hix : (i : Int) ≠ x := fun e => hni (by simp [e])
      have := g2 i (by rw [hq]; simp; exact hi) (fun h => hni (by simp [h]))
      rw [this, hq]
      show rd (q.2.set x.toNat _) (i : Nat) = _
      rw [rd_get _ i (by simpa using hi), rd_get _ i hi, List.getElem_set_ne (by omega)]
theorem ends_at (ws s : List Int) (hn : s.Nodup) (hr : ∀ x ∈ s, 0 ≤ x ∧ x < s.length) (hb : ∀ x ∈ s, 0 ≤ rd ws x ∧ rd ws x ≤ 100) (hl : s.length ≤ 100) (p : Nat) (hp : p < s.length) : rd (endsL s ws) s[p] = psum ws (s.take (p + 1)) := by
  have := (ends_fold ws s (0, List.replicate s.length 0) hn (by simpa using hr) hb (Int.le_refl _) (by show 0 + _ ≤ _; omega)).1 p hp
  unfold endsL
  rw [this]
  show 0 + _ = _
  omega
end Go.Proofs.Ytmlahfidnfdhbaa.Pr
