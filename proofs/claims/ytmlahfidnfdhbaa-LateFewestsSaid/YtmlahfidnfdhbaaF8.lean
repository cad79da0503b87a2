import Derived.Test.YtmlahfidnfdhbaaF7
set_option linter.unusedSimpArgs false
set_option linter.unusedVariables false
namespace Go.Proofs.Ytmlahfidnfdhbaa.Pr
open Go.RowKit Go.Proofs.YtmlahfidnfdhbaaW.PrintWords Go.Proofs.YtmlahfidnfdhbaaW.PrintLast Go.Proofs.YtmlahfidnfdhbaaW.PrintMore

section
variable {l : List S58} {side : Int} (h : checkO l = 0) (hs : side = 0 ∨ side = 1) (hpos : 0 < l.length)

theorem due_range (h : checkO l = 0) (i : Int) (hi : i ∈ byDueL l) : 0 ≤ dueOf l i ∧ dueOf l i ≤ 2000 := by
  have hr := byDueL_range l i hi
  obtain ⟨n, rfl⟩ := Int.eq_ofNat_of_zero_le hr.1
  have hn : n < l.length := by omega
  have := checkO_all h (rd_T58 l (n : Nat)) (by rw [rdT_get l n hn]; exact List.getElem_mem hn)
  unfold dueOf
  omega
theorem days_ok (h : checkO l = 0) : (∀ i ∈ byDueL l, dueOf l i ∈ daysOf l) ∧ (∀ d ∈ daysOf l, ∃ i ∈ byDueL l, dueOf l i = d) ∧ (daysOf l).Pairwise (· < ·) := by
  obtain ⟨g1, g2, g3⟩ := days_mem l (byDueL l) (-1) (byDueL_sorted l) (fun i hi => by have := due_range h i hi; omega)
  refine ⟨fun i hi => ?_, fun d hd => (g2 d hd).2, g3⟩
  rcases g1 i hi with e | e
  · have := due_range h i hi; omega
  · exact e
theorem mem_at {xs : List Int} {i : Int} (hi : i ∈ xs) : ∃ p, ∃ hp : p < xs.length, xs[p] = i := List.getElem_of_mem hi
theorem delay_at (h : checkO l = 0) (hs : side = 0 ∨ side = 1) (p : Nat) (hp : p < (byDueL l).length) :
    rd (delays l (endsL (byDueL l) (worksOf side l)) l.length) (byDueL l)[p] = psum (worksOf side l) ((byDueL l).take (p + 1)) - dueOf l (byDueL l)[p] := by
  have hl := checkO_len h
  have hlen := byDueL_len l
  have hr := byDueL_range l (byDueL l)[p] (List.getElem_mem hp)
  have hb : ∀ x ∈ byDueL l, 0 ≤ rd (worksOf side l) x ∧ rd (worksOf side l) x ≤ 100 := fun x hx => by
    have := byDueL_range l x hx
    have := rd_works_bound h hs x this.1 this.2
    omega
  have he := ends_at (worksOf side l) (byDueL l) (byDueL_nodup l) (fun x hx => by have := byDueL_range l x hx; omega) hb (by omega) p hp
  have hps := psum_bound (worksOf side l) ((byDueL l).take (p + 1)) (fun x hx => hb x (List.mem_of_mem_take hx))
  have hd := due_range h _ (List.getElem_mem hp)
  have htl : ((byDueL l).take (p + 1)).length ≤ 10 := by simp; omega
  obtain ⟨n, hn⟩ := Int.eq_ofNat_of_zero_le hr.1
  rw [hn] at he hd hr ⊢
  have hdr := delays_rd l (endsL (byDueL l) (worksOf side l)) l.length n (by rw [endsL_len]; omega)
  rw [if_pos (by omega)] at hdr
  rw [hdr, he]
  unfold dueOf at hd ⊢
  unfold wrap64
  omega
theorem boundB_eq (h : checkO l = 0) (hs : side = 0 ∨ side = 1) (d : Int) (hd0 : 0 ≤ d) (hd1 : d ≤ 1000000) : boundB l side d = Bd l (worksOf side l) d := (bound_val h hs d hd0 hd1).1

theorem works_nonneg (h : checkO l = 0) (hs : side = 0 ∨ side = 1) : ∀ x ∈ byDueL l, 0 ≤ rd (worksOf side l) x := fun x hx => by
  have := byDueL_range l x hx
  have := rd_works_bound h hs x this.1 this.2
  omega
/-- The first day with the greatest bound, and the greatest delay by their Due: the same number. -/
theorem shortest_main (h : checkO l = 0) (hs : side = 0 ∨ side = 1) (hpos : 0 < l.length) : ∃ x, tightOf l side = (x, boundB l side x) ∧ x ∈ daysOf l ∧ (∀ d ∈ daysOf l, boundB l side d ≤ boundB l side x) ∧ (∀ d ∈ daysOf l, d < x → boundB l side d < boundB l side x) ∧
    maxTo (delays l (endsL (byDueL l) (worksOf side l)) l.length) (l.length - 1) = boundB l side x := by
  obtain ⟨g1, g2, g3⟩ := days_ok h
  have hlen := byDueL_len l
  have hne : daysOf l ≠ [] := by
    intro e
    have := g1 (byDueL l)[0] (List.getElem_mem (by omega))
    rw [e] at this
    cases this
  obtain ⟨x, t1, t2, t3, t4⟩ := tight_spec (boundB l side) (daysOf l) hne g3
  refine ⟨x, by unfold tightOf; rw [t1]; rfl, t2, t3, t4, ?_⟩
  have hwn := works_nonneg h hs
  apply Int.le_antisymm
  · obtain ⟨j, hj, e⟩ := maxTo_at (delays l (endsL (byDueL l) (worksOf side l)) l.length) (l.length - 1)
    rw [e]
    have hjm : (j : Int) ∈ byDueL l := (byDueL_perm l).mem_iff.2 (iota_mem.2 (by omega))
    obtain ⟨p, hp, ep⟩ := mem_at hjm
    have hd := delay_at h hs p hp
    have hle := prefix_le (ws := worksOf side l) hwn p hp
    have hr := due_range h _ (List.getElem_mem hp)
    have hb := t3 _ (g1 _ (List.getElem_mem hp))
    rw [boundB_eq h hs _ hr.1 (by omega)] at hb
    unfold Bd at hb
    rw [ep] at hd hle hb
    omega
  · obtain ⟨i, hi, e⟩ := g2 x t2
    obtain ⟨p, hp, ep⟩ := mem_at hi
    obtain ⟨q, hq, q1, q2⟩ := prefix_eq (l := l) (ws := worksOf side l) p hp
    have hd := delay_at h hs q hq
    have hr := due_range h i hi
    have hrq := byDueL_range l _ (List.getElem_mem hq)
    obtain ⟨n, hn⟩ := Int.eq_ofNat_of_zero_le hrq.1
    have hge := maxTo_ge (delays l (endsL (byDueL l) (worksOf side l)) l.length) (l.length - 1) n (by omega)
    rw [q1, q2, hn, ep, e] at hd
    have hbx := boundB_eq h hs x (by omega) (by omega)
    rw [hbx]
    unfold Bd
    omega
end
end Go.Proofs.Ytmlahfidnfdhbaa.Pr
