import Derived.Test.YtpbemjdaanlaoaaJ1
set_option linter.unusedVariables false
set_option linter.unusedSimpArgs false
namespace Go.Proofs.Ytpbemjdaanlaoaa.Pr
open Go.RowKit Go.Proofs.YtpbemjdaanlaoaaW.PrintWords Go.Proofs.YtpbemjdaanlaoaaW.PrintLast Go.Proofs.YtpbemjdaanlaoaaW.PrintMore
set_option maxRecDepth 100000
theorem wfi_in {x : Int} (h : 1 ≤ x ∧ x ≤ 99) : wfi x := by
  unfold wfi Lit.wf
  simp only [Bool.and_eq_true, decide_eq_true_eq]
  have h1 : IntKind.i64.min = -9223372036854775808 := by kernel_rfl
  have h2 : IntKind.i64.max = 9223372036854775807 := by kernel_rfl
  rw [h1, h2]
  omega
theorem rk_wf {l : List (List Int)} (h : rkC l = 0) (hr : ∀ r ∈ l, r.length ≤ 20) : okL 20 l := by
  intro r hr'
  refine ⟨hr r hr', fun x hx => ?_⟩
  have := within_true (rkC_ok h).2.1 x (List.mem_flatten.mpr ⟨r, hr', hx⟩)
  exact wfi_in this
theorem put_small (l : List (List Int)) (a : Int) (hl : l.length ≤ 20) (hr : ∀ r ∈ l, r.length ≤ 20) : (putR l a).1.length ≤ 1000 ∧ ∀ r ∈ (putR l a).1, r.length ≤ 1000 := by
  unfold putR
  split
  · simp
  · rename_i h0
    split
    · simp
    · rename_i hw
      split
      · simp
      · have h0 : rkC l = 0 := Decidable.not_not.mp h0
        have hw2 := (within1 1 99 a).mp (by simpa using hw)
        obtain ⟨j, h1, h2, h3, h4⟩ := putL_size (rk_wf h0 hr) (t := a) (wfi_in hw2)
        refine ⟨?_, fun r h => Nat.le_trans (h4 r h).1 (by omega)⟩
        show (putL l a).1.length ≤ 1000
        rw [h3]
        split <;> omega
theorem take_small (l : List (List Int)) (a : Int) (hl : l.length ≤ 20) (hr : ∀ r ∈ l, r.length ≤ 20) : (takeR l a).1.length ≤ 1000 ∧ ∀ r ∈ (takeR l a).1, r.length ≤ 1000 := by
  unfold takeR
  split
  · simp
  · rename_i h0
    split
    · simp
    · rename_i hw
      split
      · simp
      · rename_i hn
        have h0 : rkC l = 0 := Decidable.not_not.mp h0
        have hw2 := (within1 0 ((l.length : Int) - 1) a).mp (by simpa using hw)
        have hk := (rkC_ok h0).2.2
        obtain ⟨_, hc2⟩ := canTake l a hl hr hw2.1 (by omega) hk
        have hc := (cornB_iff _ _).mp (hc2 (by simpa using hn))
        have hlen : (takeL l a.toNat).1.length ≤ l.length := by
          rw [takeL_len, (take0_row (Rk.of hk) hc).2.2.1]
          have := hc.lt
          split <;> omega
        refine ⟨Nat.le_trans hlen (by omega), fun r h => ?_⟩
        obtain ⟨i, hi, rfl⟩ := List.mem_iff_getElem.mp h
        have h5 := Ln_takeL (Rk.of hk) hc i
        unfold Ln at h5
        rw [rdL_get _ i hi] at h5
        have h6 := rows_small hr i
        have h7 := rows_small hr a.toNat
        show (takeL l a.toNat).1[i].length ≤ 1000
        rw [h5]
        split <;> omega
theorem RackPuts_ev (l : List (List Int)) (a1 a2 : Int) : Ev (fun k => fipplelaw08_RackPuts.f k l a1 a2) true := by
  obtain ⟨b, h1, h2⟩ := great_ev l
  refine Ev.bind h1 ?_
  cases b with
  | true => exact Ev.now _
  | false =>
    obtain ⟨h3, h4⟩ := h2 rfl
    have h5 := flat_small h4
    obtain ⟨p1, p2⟩ := put_small l a1 h3 h4
    obtain ⟨t1, t2⟩ := take_small l a2 h3 h4
    have hp := refPut_ev l a1 h3 h4
    have ht := refTake_ev l a2 h3 h4
    have ep : rack_Put.f l a1 = some (putR l a1) := by rw [rack_Put.f, if_pos ⟨by omega, by omega⟩]
    have et : rack_Take.f l a2 = some (takeR l a2) := by rw [rack_Take.f, if_pos ⟨by omega, by omega⟩]
    generalize putR l a1 = X at *
    generalize takeR l a2 = Y at *
    refine Ev.congr (f := fun k => (fippleref08_Put.f k l a1).bind fun bt188 => ((fippleref08_Take.f k l a2).bind fun bt198 => ((fipplelaw08_Same.f k X.1 bt188.1).bind fun t203 => (if t203 = true then (if X.2.1 = bt188.2.1 then (if X.2.2 = bt188.2.2 then ((fipplelaw08_Same.f k Y.1 bt198.1).bind fun t204 => (if t204 = true then (if Y.2.1 = bt198.2.1 then (if Y.2.2 = bt198.2.2 then ((fipplelaw08_Same.f k l l).bind fun t205 => (if t205 = true then ((fipplelaw08_Works.f).bind fun t206 => (some t206)) else (some false))) else (some false)) else (some false)) else (some false))) else (some false)) else (some false)) else (some false))))) (fun k => ?_) ?_
    · rw [if_neg (by decide), copied_eq h3 h4, ep, et]
      rfl
    · refine Ev.bind hp ?_
      refine Ev.bind ht ?_
      refine Ev.bind (sameR_ev X.1 p1 p2) ?_
      refine Ev.congr (f := fun k => (fipplelaw08_Same.f k Y.1 Y.1).bind fun t204 => (if t204 = true then (if Y.2.1 = Y.2.1 then (if Y.2.2 = Y.2.2 then ((fipplelaw08_Same.f k l l).bind fun t205 => (if t205 = true then ((fipplelaw08_Works.f).bind fun t206 => (some t206)) else (some false))) else (some false)) else (some false)) else (some false))) (fun k => by rw [if_pos rfl, if_pos rfl, if_pos rfl]) ?_
      refine Ev.bind (sameR_ev Y.1 t1 t2) ?_
      refine Ev.congr (f := fun k => (fipplelaw08_Same.f k l l).bind fun t205 => (if t205 = true then ((fipplelaw08_Works.f).bind fun t206 => (some t206)) else (some false))) (fun k => by rw [if_pos rfl, if_pos rfl, if_pos rfl]) ?_
      refine Ev.bind (sameR_ev l (by omega) (fun r hr => Nat.le_trans (h4 r hr) (by omega))) ?_
      exact Ev.now _
theorem RackPuts_true (A0 : Option Addr) (c0 : Nat) (l0 : List (List Int)) (a1 a2 : Int) (w : World) (hr0 : Kd.C (Kd.slice 3 (Kd.int .i64)) w A0 l0.length l0) (hc0 : l0.length ≤ c0) : Calls Try.prog 4 #[.slice A0 l0.length c0, .int .i64 a1, .int .i64 a2] w (retTrue w) := by
  obtain ⟨k, hk⟩ := (RackPuts_ev l0 a1 a2).rounds
  exact fipplelaw08_RackPuts.calls k A0 c0 l0 a1 a2 true w hr0 hc0 hk
end Go.Proofs.Ytpbemjdaanlaoaa.Pr
