import Derived.Test.YtmlahfidnfdhbaaH1
set_option linter.unusedSimpArgs false
set_option linter.unusedVariables false
namespace Go.Proofs.Ytmlahfidnfdhbaa.Pr
open Go.RowKit Go.Proofs.YtmlahfidnfdhbaaW.PrintWords Go.Proofs.YtmlahfidnfdhbaaW.PrintLast Go.Proofs.YtmlahfidnfdhbaaW.PrintMore

def someL (l : List S58) (K : List Int) : List S58 := K.map (fun i => rd_T58 l i)
theorem some_loop (l : List S58) (K : List Int) (hK : K.length ≤ 1000) (hr : ∀ x ∈ K, 0 ≤ x ∧ x < l.length) : ∀ d j, K.length - j = d → j ≤ K.length → Ev (fun k => fippleref05_some.l0 k l K (someL l (K.take j)) (j : Int)) (someL l K) := by
  intro d
  induction d with
  | zero =>
    intro j h1 h2
    obtain rfl : j = K.length := by omega
    rw [List.take_length]
    refine Ev.step (f := fun _ => some (someL l K)) (fun k => ?_) (Ev.now _)
    simp only [fippleref05_some.l0]
    rw [if_neg (by omega)]
  | succ d ih =>
    intro j h1 h2
    have hj : j < K.length := by omega
    have hx := hr K[j] (List.getElem_mem hj)
    have ht : someL l (K.take (j + 1)) = someL l (K.take j) ++ [rd_T58 l K[j]] := by
      unfold someL; rw [List.take_succ_eq_append_getElem hj, List.map_append]; rfl
    have hlen : (someL l (K.take j)).length < 5864062014805 := by unfold someL; rw [List.length_map, List.length_take]; omega
    refine Ev.step (f := fun k => fippleref05_some.l0 k l K (someL l (K.take (j + 1))) ((j + 1 : Nat) : Int)) (fun k => ?_) (ih (j + 1) (by omega) (by omega))
    simp only [fippleref05_some.l0]
    rw [if_pos (by omega), if_pos (by omega), rd_get K j hj, if_pos hx.1, if_pos hx.2, if_pos hlen, w1 j (by omega), ht]
theorem some_ev (l : List S58) (K : List Int) (hK : K.length ≤ 1000) (hr : ∀ x ∈ K, 0 ≤ x ∧ x < l.length) : Ev (fun k => fippleref05_some.f k l K) (someL l K) := by
  have := some_loop l K hK hr K.length 0 rfl (by omega)
  exact this

theorem someL_ok {l : List S58} {K : List Int} (h : checkO l = 0) (hr : ∀ x ∈ K, 0 ≤ x ∧ x < l.length) (hK : K.length ≤ 10) : checkO (someL l K) = 0 := by
  unfold checkO
  rw [if_neg (by unfold someL; rw [List.length_map]; omega), if_neg]
  intro ha
  obtain ⟨x, hx, h2⟩ := List.any_eq_true.1 ha
  obtain ⟨i, hi, rfl⟩ := List.mem_map.1 hx
  have hi2 := hr i hi
  obtain ⟨n, rfl⟩ := Int.eq_ofNat_of_zero_le hi2.1
  have hn : n < l.length := by omega
  have hb := checkO_all h (rd_T58 l (n : Nat)) (by rw [rdT_get l n hn]; exact List.getElem_mem hn)
  rw [oddO_iff] at h2
  omega
theorem rd_someL (l : List S58) (K : List Int) (j : Nat) (hj : j < K.length) : rd_T58 (someL l K) (j : Nat) = rd_T58 l (rd K (j : Nat)) := by
  rw [rdT_get _ j (by unfold someL; rw [List.length_map]; exact hj), rd_get K j hj]
  simp [someL]
theorem iota_map_rd (K : List Int) : (iota K.length).map (fun j => rd K j) = K := by
  refine List.ext_getElem (by rw [List.length_map, iota_len]) (fun i h1 h2 => ?_)
  have := rd_get K i h2
  simp [iota, this]
/-- What is to be done by a day, told of the orders that are kept, or of their indexes. -/
theorem psum_some {l : List S58} {K : List Int} {side : Int} (hr : ∀ x ∈ K, 0 ≤ x ∧ x < l.length) (d : Int) :
    psum (worksOf side (someL l K)) ((iota K.length).filter (isDue (someL l K) d)) = psum (worksOf side l) (K.filter (isDue l d)) := by
  have hlen : (someL l K).length = K.length := by unfold someL; rw [List.length_map]
  have e1 : K.filter (isDue l d) = ((iota K.length).filter (isDue (someL l K) d)).map (fun j => rd K j) := by
    conv => lhs; rw [← iota_map_rd K]
    rw [List.filter_map]
    congr 1
    apply List.filter_congr
    intro j hj
    have hj2 := iota_mem.1 hj
    obtain ⟨n, rfl⟩ := Int.eq_ofNat_of_zero_le hj2.1
    show isDue l d (rd K (n : Nat)) = isDue (someL l K) d (n : Nat)
    unfold isDue dueOf
    rw [rd_someL l K n (by omega)]
  rw [e1]
  unfold psum
  rw [List.map_map]
  congr 1
  apply List.map_congr_left
  intro j hj
  have hj2 := iota_mem.1 (List.mem_filter.1 hj).1
  obtain ⟨n, rfl⟩ := Int.eq_ofNat_of_zero_le hj2.1
  have hn : n < K.length := by omega
  have hx := hr K[n] (List.getElem_mem hn)
  show rd (worksOf side (someL l K)) (n : Nat) = rd (worksOf side l) (rd K (n : Nat))
  rw [rd_works side (someL l K) n (by omega), rd_someL l K n hn]
  have e := rd_get K n hn
  rw [e]
  obtain ⟨m, hm⟩ := Int.eq_ofNat_of_zero_le hx.1
  rw [hm, rd_works side l m (by omega)]
theorem canKeep_iff {l : List S58} {K : List Int} {side : Int} (h : checkO l = 0) (hs : side = 0 ∨ side = 1) (hr : ∀ x ∈ K, 0 ≤ x ∧ x < l.length) (hK : K.length ≤ 10) (hpos : 0 < K.length) :
    maxTo (delays (someL l K) (endsL (byDueL (someL l K)) (worksOf side (someL l K))) (someL l K).length) ((someL l K).length - 1) ≤ 0 ↔ feas l (worksOf side l) K := by
  have hc := someL_ok h hr hK
  have hlen : (someL l K).length = K.length := by unfold someL; rw [List.length_map]
  obtain ⟨x, _, t2, t3, _, t5⟩ := shortest_main hc hs (by omega)
  obtain ⟨g1, g2, _⟩ := days_ok hc
  rw [t5]
  have key : ∀ d, 0 ≤ d → d ≤ 2000 → boundB (someL l K) side d = psum (worksOf side l) (K.filter (isDue l d)) - d := by
    intro d h0 h1
    rw [boundB_eq hc hs d h0 (by omega)]
    unfold Bd
    rw [psum_perm ((byDueL_perm (someL l K)).filter _), hlen, psum_some hr]
  constructor
  · intro hm i hi
    obtain ⟨j, hj, e⟩ := List.getElem_of_mem hi
    have hjm : (j : Int) ∈ byDueL (someL l K) := (byDueL_perm _).mem_iff.2 (iota_mem.2 (by omega))
    have hd := g1 _ hjm
    have hrr := due_range hc _ hjm
    have hb := t3 _ hd
    have hdu : dueOf (someL l K) (j : Nat) = dueOf l i := by
      unfold dueOf
      rw [rd_someL l K j hj, rd_get K j hj, e]
    rw [hdu] at hb hrr
    rw [key _ hrr.1 hrr.2] at hb
    omega
  · intro hf
    obtain ⟨j, hj, e⟩ := g2 x t2
    have hj2 := byDueL_range _ j hj
    have hrr := due_range hc j hj
    obtain ⟨n, rfl⟩ := Int.eq_ofNat_of_zero_le hj2.1
    have hn : n < K.length := by omega
    rw [e] at hrr
    rw [key _ hrr.1 hrr.2]
    have hdu : dueOf (someL l K) (n : Nat) = dueOf l K[n] := by
      unfold dueOf
      rw [rd_someL l K n hn, rd_get K n hn]
    have := hf K[n] (List.getElem_mem hn)
    rw [← hdu, e] at this
    omega
theorem canKeep_ev {l : List S58} {K : List Int} {side : Int} (h : checkO l = 0) (hs : side = 0 ∨ side = 1) (hr : ∀ x ∈ K, 0 ≤ x ∧ x < l.length) (hK : K.length ≤ 10) :
    Ev (fun k => fippleref05_CanKeep.f k l side K) (decide (feas l (worksOf side l) K)) := by
  unfold fippleref05_CanKeep.f
  refine Ev.bind (some_ev l K (by omega) hr) ?_
  have hlen : (someL l K).length = K.length := by unfold someL; rw [List.length_map]
  by_cases h0 : K.length = 0
  · simp only [if_pos (show ((someL l K).length : Int) = 0 by omega)]
    obtain rfl : K = [] := List.eq_nil_of_length_eq_zero h0
    have : decide (feas l (worksOf side l) []) = true := decide_eq_true (by intro i hi; cases hi)
    rw [this]
    exact Ev.now _
  · simp only [if_neg (show ¬ ((someL l K).length : Int) = 0 by omega)]
    have hc := someL_ok h hr hK
    refine Ev.bind (seqOf_ev (someL l K) (by omega)) ?_
    refine Ev.bind (side_ev (someL l K) side hs (by omega)) ?_
    refine Ev.bind (refDelayOf_ev (someL l K) (byDueL (someL l K)) (worksOf side (someL l K)) (by omega) (by omega) (byDueL_len _) (fun y hy => by have := byDueL_range _ y hy; rw [worksOf_len, byDueL_len]; omega)) ?_
    have := canKeep_iff (side := side) h hs hr hK (by omega)
    have e : decide (maxTo (delays (someL l K) (endsL (byDueL (someL l K)) (worksOf side (someL l K))) (someL l K).length) ((someL l K).length - 1) ≤ 0) = decide (feas l (worksOf side l) K) := decide_eq_decide.2 this
    rw [← e]
    exact Ev.now _
end Go.Proofs.Ytmlahfidnfdhbaa.Pr
