/- Lemmas for the laws of rack: B6, RN, B5, RL. -/
import Derived.Test.YtpbemjdaanlaoaaN1
import Derived.Test.YtpbemjdaanlaoaaN5
import Derived.Test.YtpbemjdaanlaoaaN2
import Derived.Test.YtpbemjdaanlaoaaPr0
import Derived.Test.YtpbemjdaanlaoaaPr1
import Derived.Test.YtpbemjdaanlaoaaN0
set_option linter.unusedVariables false
set_option linter.unusedSimpArgs false
set_option linter.unusedVariables false
set_option linter.unusedSimpArgs false
namespace Go.Proofs.Ytpbemjdaanlaoaa.Pr
open Go.RowKit Go.Proofs.YtpbemjdaanlaoaaW.PrintWords Go.Proofs.YtpbemjdaanlaoaaW.PrintLast Go.Proofs.YtpbemjdaanlaoaaW.PrintMore
open Go.Maps
set_option maxRecDepth 100000

def readR (R O : List (List Int)) : List Int × Int := if rkC R ≠ 0 then ([], rkC R) else if orC O ≠ 0 then ([], orC O) else if sameSh O R = false then ([], 15) else ((rdS O R O.flatten.length O.flatten.length).2, 0)
def rack_Read.f (l0 : List (List Int)) (l1 : List (List Int)) : Option (List Int × Int) := if (l0.length ≤ 1000 ∧ l0.flatten.length ≤ 1000) ∧ (l1.length ≤ 1000 ∧ l1.flatten.length ≤ 1000) then some (readR l0 l1) else none
theorem upto_of {R O : List (List Int)} (hR : rkC R = 0) (hO : Od O) (h : sameSh O R = true) : Upto O (O.flatten.length : Int) R := by
  have hRl := (rkC_okR hR).2
  have hOl : O.length ≤ 12 := Nat.le_trans (rises_len hO.ris) hO.le
  have hln : ∀ i, Ln O i = Ln R i := by
    intro i
    rcases Nat.lt_or_ge i 13 with h1 | h1
    · have h2 := of_decide_eq_true (List.all_eq_true.1 h i (List.mem_range.2 h1))
      have e : ∀ X : List (List Int), lenAt X X.length i = (Ln X i : Int) := by
        intro X
        unfold lenAt
        by_cases hi : i < X.length
        · rw [if_pos hi]; rfl
        · rw [if_neg hi, Ln_out (by omega)]; rfl
      rw [e, e] at h2
      omega
    · rw [Ln_out (by omega), Ln_out (by omega)]
  refine ⟨Rk.of (rkC_ok hR).2.2, fun i p => ?_⟩
  rw [hln]
  constructor
  · intro hp
    refine ⟨hp, ?_⟩
    exact (hO.rng _ (Xx_mem (by rw [hln]; exact hp)).2.2).2
  · exact fun hp => hp.1

set_option maxHeartbeats 4000000 in
theorem rack_Read.calls (A0 : Option Addr) (c0 : Nat) (l0 : List (List Int)) (A1 : Option Addr) (c1 : Nat) (l1 : List (List Int)) (r1 : List Int) (r2 : Int) (w : World) (hr0 : Kd.C (Kd.slice 3 (Kd.int .i64)) w A0 l0.length l0) (hc0 : l0.length ≤ c0) (hr1 : Kd.C (Kd.slice 3 (Kd.int .i64)) w A1 l1.length l1) (hc1 : l1.length ≤ c1) (h : rack_Read.f l0 l1 = some (r1, r2)) :
    Calls Try.prog 21 #[.slice A0 l0.length c0, .slice A1 l1.length c1] w fun e w' => ∃ v0_ : Value, e = .returned (.tuple #[v0_, .int .i64 r2]) ∧ Kd.R (Kd.int .i64) 3 w' w.heap.size (fun _ => True) v0_ r1 ∧ Below w.heap.size w w' := by
  unfold rack_Read.f at h
  have hb : (l0.length ≤ 1000 ∧ l0.flatten.length ≤ 1000) ∧ (l1.length ≤ 1000 ∧ l1.flatten.length ≤ 1000) := by
    by_cases hb : (l0.length ≤ 1000 ∧ l0.flatten.length ≤ 1000) ∧ (l1.length ≤ 1000 ∧ l1.flatten.length ≤ 1000)
    · exact hb
    · rw [if_neg hb] at h; cases h
  rw [if_pos hb] at h
  injection h with h
  obtain ⟨⟨hb1, hb2⟩, hb3, hb4⟩ := hb
  unfold readR at h
  by_cases hk : rkC l0 ≠ 0
  · rw [if_pos hk] at h
    have h51 := open51_no A0 c0 l0 w hr0 hc0 hb1 hb2 hk
    have H51 := Lib.hid h51
    injection h with e1 e2
    subst e1 e2
    clear h51 hr0 hb2 hr1 hb3 hb4 hb1
    generalize rkC l0 = k at *
    have hk' : (k == 0) = false := by simpa using hk
    clear hk
    go_enter Try.func21, Try.ntmps21
    go_wp2_with (go_at_call 51; refine H51.out.mono ?_; rintro e w1 ⟨rfl, hb1⟩)
    go_ret2
    exact ⟨_, rfl, Kd.R_nil _ _ _ _ _, hb1⟩
  · rw [if_neg hk] at h
    have hk0 : rkC l0 = 0 := by
      by_cases hz : rkC l0 = 0
      · exact hz
      · exact absurd hz hk
    have h51 := open51_ok A0 c0 l0 w hr0 hc0 hb1 hk0
    have h12 : ∀ w1, Below w.heap.size w w1 → Calls Try.prog 12 #[.slice A1 l1.length c1] w1 fun e w' => e = .returned (.int .i64 (orC l1)) ∧ Below w1.heap.size w1 w' := fun w1 hB => rack_CheckOrder.calls A1 c1 l1 (orC l1) w1 (Kd.C_below hr1 hB) hc1 (by unfold rack_CheckOrder.f; rw [if_pos ⟨hb3, hb4⟩])
    have H51 := Lib.hid h51; have H12 := Lib.hid h12
    clear h51 h12
    by_cases ho : orC l1 ≠ 0
    · rw [if_pos ho] at h
      injection h with e1 e2
      subst e1 e2
      clear hr0 hb2 hr1 hb3 hb4 hb1 hk hk0
      generalize orC l1 = k at *
      have hk' : (k == 0) = false := by simpa using ho
      clear ho
      go_enter Try.func21, Try.ntmps21
      go_wp2_with (first
        | (go_at_call 51; refine H51.out.mono ?_; rintro e w1 ⟨g, bm, n, D, v, rfl, hS, _, hn, hb1⟩; clear hS)
        | (go_at_call 12; refine (H12.out _ hb1).mono ?_; rintro e w2 ⟨rfl, hb2⟩))
      go_ret2
      exact ⟨_, rfl, Kd.R_nil _ _ _ _ _, hb1.trans (hb2.mono hb1.size)⟩
    · rw [if_neg ho] at h
      have ho0 : orC l1 = 0 := by
        by_cases hz : orC l1 = 0
        · exact hz
        · exact absurd hz ho
      rw [ho0] at H12
      have hOd := Od.of ho0
      have hOl : l1.length ≤ 12 := Nat.le_trans (rises_len hOd.ris) hOd.le
      obtain ⟨hRok, hRl⟩ := rkC_okR hk0
      have heq : ∀ W : World, (Op.equalIn 10000 78 (.agg (shK l1 l1.length)) (.agg (shK l0 l0.length))).run Try.prog W = .ok (sameSh l1 l0) W := fun W => eqShape l1 l0 W
      have h43 : ∀ w1, Below w.heap.size w w1 → Calls Try.prog 43 #[.slice A1 l1.length c1] w1 fun e w' => ∃ g bm n D v, e = .returned (.pointer (some ⟨g, 0, none⟩)) ∧ StandAt w' w1.heap.size g bm n D v l1 ∧ HasP D (plF l1 l1.length 0) ∧ n ≤ 1000 ∧ Below w1.heap.size w1 w' := fun w1 hB =>
        newStand43 A1 c1 l1 w1 hb4 hb3 (fun x hx => wfi_of (by have := hOd.rng x hx; have := hOd.le; omega)) (Kd.C_below hr1 hB)
      have H43 := Lib.hid h43; have HOD := Lib.hid hOd; have HROK := Lib.hid hRok; have HR1 := Lib.hid hr1
      have HUP : Hid (sameSh l1 l0 = true → Upto l1 (l1.flatten.length : Int) l0) := Lib.hid (fun hs => upto_of hk0 hOd hs)
      clear h43 hOd hRok hk hk0 ho ho0 hr0 hr1 hb1 hb2
      generalize hs : sameSh l1 l0 = s at *
      cases s
      · rw [if_pos rfl] at h
        injection h with e1 e2
        subst e1 e2
        go_enter Try.func21, Try.ntmps21
        go_wp2_with (first
          | (go_at_call 51; refine H51.out.mono ?_; rintro e w1 ⟨g, bm, n, D, v, rfl, hS, _, hn, hb1⟩; have HS1 := Lib.hid hS; clear hS)
          | (go_at_call 12; refine (H12.out _ hb1).mono ?_; rintro e w2 ⟨rfl, hb2⟩; have HS2 := Lib.hid (HS1.out.below hb2); have HB2 := Lib.hid (hb1.trans (hb2.mono hb1.size)); clear hb1 hb2))
        obtain ⟨Av, cv, rfl⟩ := Kd.S_slice HS2.out.row
        have y0 := HS2.out.hv.1
        have y0d : w2.drew.cell? ⟨g, 0, none⟩ = some (.slice Av l0.length cv) := pw_cell_below ((Below.refl _ w2).drew) y0
        have hbw : Below w.heap.size w w2 := HB2.out
        have hbwd : Below w.heap.size w w2.drew := HB2.out.drew
        have HSL := Lib.hid (Kd.S_reads' HS2.out.row)
        go_region_law
          (first
            | (go_simp; go_at_call 43; refine (H43.out _ (by assumption)).mono ?_; rintro e w3 ⟨g2, bm2, n2, D2, v2, rfl, hS3, _, _, hb3⟩; obtain ⟨A2v, c2v, rfl⟩ := Kd.S_slice hS3.row; have y2 := hS3.hv.1; have hC2 := (Kd.S_reads' hS3.row).2.2; have hbz : Below w2.heap.size w2 w3 := Below.trans (by first | exact Below.refl _ _ | exact (Below.refl _ _).drew) hb3; have y3 := pw_cell_below hbz y0; have hC0 := Kd.C_below HSL.out.2.2 hbz; have HS3 := Lib.hid hS3; have HB3 := Lib.hid (HB2.out.trans (hbz.mono HB2.out.size)); clear hS3 hb3 hbz)
            | (go_simp; go_at_call 58; ((with_reducible refine (shape58 A2v c2v l1 _ hOl ?_).mono ?_)); assumption; rintro e w4 ⟨rfl, hb4⟩; have y4 := pw_cell_below hb4 y3; have hC4 := Kd.C_below hC0 hb4; have HB4 := Lib.hid (HB3.out.trans (hb4.mono HB3.out.size)); clear hb4)
            | (go_simp; go_at_call 58; ((with_reducible refine (shape58 Av cv l0 _ hRl ?_).mono ?_)); assumption; rintro e w5 ⟨rfl, hb5⟩; have HB5 := Lib.hid (HB4.out.trans (hb5.mono HB4.out.size)); clear hb5))
        all_goals
          go_wp2
          go_ret2
          first
            | exact ⟨_, rfl, Kd.R_nil _ _ _ _ _, HB5.out⟩
            | exact ⟨_, rfl, Kd.R_nil _ _ _ _ _, HB5.out.drew⟩
      · rw [if_neg (by decide)] at h
        injection h with e1 e2
        subst e1 e2
        have hup := HUP.out rfl
        have HU := Lib.hid hup
        clear hup HUP
        have hcat : ∀ w1, Below w.heap.size w w1 → Calls Try.prog 41 #[.slice A1 l1.length c1] w1 fun e w' => ∃ v0_ : Value, e = .returned (v0_) ∧ Kd.R (Kd.int .i64) 3 w' w1.heap.size (fun _ => True) v0_ l1.flatten ∧ Below w1.heap.size w1 w' := fun w1 hB =>
          slices_Concat_int_int.calls A1 c1 l1 l1.flatten w1 (Kd.C_below HR1.out hB) hc1 (by unfold slices_Concat_int_int.f; rw [if_pos hb4])
        obtain ⟨fl, hfl⟩ : ∃ fl, fl = l1.flatten := ⟨_, rfl⟩
        rw [← hfl] at HU hcat ⊢
        obtain ⟨N, hN⟩ : ∃ N, N = fl.length := ⟨_, rfl⟩
        rw [← hN] at HU ⊢
        have hN12 : N ≤ 12 := by rw [hN, hfl]; exact HOD.out.le
        have HFL := Lib.hid hfl; have HN := Lib.hid hN; have HCAT := Lib.hid hcat
        clear hN hcat hb4 hfl
        go_enter Try.func21, Try.ntmps21
        go_wp2_with (first
          | (go_at_call 51; refine H51.out.mono ?_; rintro e w1 ⟨g, bm, n, D, v, rfl, hS, _, hn, hb1⟩; have HS1 := Lib.hid hS; clear hS)
          | (go_at_call 12; refine (H12.out _ hb1).mono ?_; rintro e w2 ⟨rfl, hb2⟩; have HS2 := Lib.hid (HS1.out.below hb2); have HB2 := Lib.hid (hb1.trans (hb2.mono hb1.size)); clear hb1 hb2))
        obtain ⟨Av, cv, rfl⟩ := Kd.S_slice HS2.out.row
        have y0 := HS2.out.hv.1
        have y0d : w2.drew.cell? ⟨g, 0, none⟩ = some (.slice Av l0.length cv) := pw_cell_below ((Below.refl _ w2).drew) y0
        have hbw : Below w.heap.size w w2 := HB2.out
        have hbwd : Below w.heap.size w w2.drew := HB2.out.drew
        have HSL := Lib.hid (Kd.S_reads' HS2.out.row)
        go_region_law
          (first
            | (go_simp; go_at_call 43; refine (H43.out _ (by assumption)).mono ?_; rintro e w3 ⟨g2, bm2, n2, D2, v2, rfl, hS3, _, _, hb3⟩; obtain ⟨A2v, c2v, rfl⟩ := Kd.S_slice hS3.row; have y2 := hS3.hv.1; have hC2 := (Kd.S_reads' hS3.row).2.2; have hbz : Below w2.heap.size w2 w3 := Below.trans (by first | exact Below.refl _ _ | exact (Below.refl _ _).drew) hb3; have y3 := pw_cell_below hbz y0; have hC0 := Kd.C_below HSL.out.2.2 hbz; have HS3 := Lib.hid hS3; have HB3 := Lib.hid (HB2.out.trans (hbz.mono HB2.out.size)); have HZ3 := Lib.hid hbz; clear hS3 hb3 hbz)
            | (go_simp; go_at_call 58; ((with_reducible refine (shape58 A2v c2v l1 _ hOl ?_).mono ?_)); assumption; rintro e w4 ⟨rfl, hb4⟩; have y4 := pw_cell_below hb4 y3; have hC4 := Kd.C_below hC0 hb4; have HB4 := Lib.hid (HB3.out.trans (hb4.mono HB3.out.size)); have HZ4 := Lib.hid (HZ3.out.trans (hb4.mono HZ3.out.size)); clear hb4)
            | (go_simp; go_at_call 58; ((with_reducible refine (shape58 Av cv l0 _ hRl ?_).mono ?_)); assumption; rintro e w5 ⟨rfl, hb5⟩; have HB5 := Lib.hid (HB4.out.trans (hb5.mono HB4.out.size)); have HZ5 := Lib.hid (HZ4.out.trans (hb5.mono HZ4.out.size)); clear hb5))
        all_goals
          clear hbw hbwd y0 y0d y2 hC2 hC0 hC4 y3 y4
          have HSt5 := Lib.hid ((HS2.out.below HZ5.out).toO.bound)
          have hB5' := HB5.out
          go_wp2_with (first
            | (go_at_call 41; refine (HCAT.out _ hB5').mono ?_; rintro e w6 ⟨v6, rfl, hR6, hb6⟩; obtain ⟨A6, c6, rfl⟩ := Kd.R_slice hR6; rw [← HN.out]; have HSt6 := Lib.hid (HSt5.out.below hb6); have HB6 := Lib.hid (HB5.out.trans (hb6.mono HB5.out.size)); have hB6' := HB6.out; have HL6 := Lib.hid hb6.size; clear hR6 hb6)
            | ((with_reducible refine gate_dst (N := 40) rfl ?_); refine Kd.R_make (Kd.int .i64) w.heap.size 3 rfl (N := 40) rfl 32 _ _ rfl (N : Int) rfl rfl Try.underlying32 (.int .i64 0) 8 info3 rfl (by decide) (by omega) 0 (ok := fun q => w5.heap.size ≤ q) (okp := fun _ => False) rfl (fun _ hk => hk.elim) HL6.out (by omega) (by omega) (Below.refl _ _) HB6.out.size ?_; intro v7 w7 hR7 hb7 hg7 hat7; rw [Int.toNat_natCast] at hR7; have HSt7 := Lib.hid (HSt6.out.grown hg7 (fun k e => by cases e)); have HB7 := Lib.hid (HB6.out.trans hb7); have HL7 := Lib.hid (Nat.le_trans HL6.out hg7.size); obtain ⟨A7, c7, rfl⟩ := Kd.R_slice hR7; rw [List.length_replicate] at hR7 ⊢; have HR7 := Lib.hid hR7; clear hR7 hb7 hg7 hat7))
          clear hB5' hB6'
          have hW8 : ∃ W8, W8 = w7.alloc (.cells #[.int .i64 (N : Int)] 3) := ⟨_, rfl⟩
          have hb8 : Below w7.heap.size w7 (w7.alloc (.cells #[.int .i64 (N : Int)] 3)) := (Below.refl _ _).alloc (Nat.le_refl _) _
          have HSt8 := Lib.hid (HSt7.out.below hb8)
          have HB8 := Lib.hid (HB7.out.trans (hb8.mono HB7.out.size))
          have HR8 : Hid (Kd.R (Kd.int .i64) 3 (w7.alloc (.cells #[.int .i64 (N : Int)] 3)) w.heap.size (fun q => ¬ (w.heap.size ≤ q ∧ q < w5.heap.size) ∧ q ≠ w7.heap.size) (.slice A7 N c7) (List.replicate N 0)) := Lib.hid (Kd.R_below (Kd.R_mono (Kd.R_bound HR7.out) (fun q hq => ⟨fun e => by have := hq.1; omega, by have := hq.2.2.1; omega⟩)) hb8)
          clear hb8 hW8
          go_loopg [10] N (fun m p wr => m ≤ N ∧ ∃ (n : Nat) (D : DataW Unit) (v : Value) (O : Nat → Prop) (Bn : Nat), p = .pointer (some ⟨Bn, 0, none⟩) ∧ Hid (StandO O wr w.heap.size g bm n D v (rdS l1 l0 N (N - m)).1) ∧ Hid (Kd.R (Kd.int .i64) 3 wr w.heap.size (fun q => ¬ O q ∧ q ≠ Bn) (.slice A7 N c7) (rdS l1 l0 N (N - m)).2) ∧ Hid (¬ O Bn) ∧ Hid (w.heap.size ≤ Bn) ∧ Hid (wr.heap[Bn]? = some (.cells #[.int .i64 (m : Int)] 3 (0, 0))) ∧ n ≤ 1000 + 100 * (N - m) ∧ Hid (∀ q, O q → w.heap.size ≤ q) ∧ Hid (Below w.heap.size w wr))
          case atStart =>
            refine ⟨Nat.le_refl _, n, D, .slice Av l0.length cv, fun q => w.heap.size ≤ q ∧ q < w5.heap.size, w7.heap.size, rfl, ?_, ?_, ?_, ?_, ?_, by omega, ?_, HB8⟩
            · rw [Nat.sub_self]; exact HSt8
            · rw [Nat.sub_self]; exact HR8
            · exact fun e => by have h1 := e.2; have h2 := HL7.out; omega
            · exact HB7.out.size
            · exact heap_alloc_at rfl
            · exact fun q hq => hq.1
          case round =>
            obtain ⟨hm, n', D', v', O, Bn, rfl, HSt, HR, HOn, HBn, HBX, hn', HOb, HB⟩ := hrel
            have x1 : wr.cell? ⟨Bn, 0, none⟩ = some (.int .i64 (gk : Int)) := blk_cellA HBX.out 0
            have x2 : wr.frozen? ⟨Bn, 0, none⟩ = false := blk_frozenA HBX.out 0
            cases gk with
            | zero =>
              go_wp2
              go_ret2
              exact ⟨_, rfl, Kd.R_mono HR.out (fun _ _ => trivial), HB.out⟩
            | succ k =>
              have hfl : N = l1.flatten.length := by rw [HN.out, HFL.out]
              obtain ⟨r, p, hr, hp, he, hri, _, _⟩ := row_of HOD.out (m := ((k + 1 : Nat) : Int)) (by omega) (by omega)
              have hUP := HU.out
              rw [hfl] at hUP
              obtain ⟨i1, i2, i3⟩ := rdS_inv HOD.out hUP HROK.out hRl (N - (k + 1)) (by omega)
              rw [← hfl] at i1 i2 i3
              have ej : ((N : Int) - ((N - (k + 1) : Nat) : Int)) = ((k + 1 : Nat) : Int) := by omega
              rw [ej] at i1
              have hcor := i1.corner HOD.out hp he
              have hstep : rdS l1 l0 N (N - k) = ((takeL (rdS l1 l0 N (N - (k + 1))).1 r).1, (rdS l1 l0 N (N - (k + 1))).2.set k (takeL (rdS l1 l0 N (N - (k + 1))).1 r).2) := by
                rw [show N - k = (N - (k + 1)) + 1 by omega]
                show ((takeL _ (rowI l1 ((N : Int) - ((N - (k + 1) : Nat) : Int))).toNat).1, _) = _
                rw [ej, hri, Int.toNat_natCast, show N - (N - (k + 1)) - 1 = k by omega]
              have hlen2 := rdS_len l1 l0 N (N - (k + 1))
              generalize rdS l1 l0 N (N - (k + 1)) = s at *
              obtain ⟨R, out⟩ := s
              simp only at HSt HR i1 i2 i3 hcor hstep hlen2
              have HI1 := Lib.hid i1; have HI2 := Lib.hid i2; have HCOR := Lib.hid hcor; have HSTEP := Lib.hid hstep; have HLEN2 := Lib.hid hlen2
              have h59 := rowOf59 A1 c1 l1 wr ⟨Bn, 0, none⟩ ((k + 1 : Nat) : Int) x1 (Kd.C_below HR1.out HB.out)
              rw [show idxI (fun l => l.any fun n => n == ((k + 1 : Nat) : Int)) l1 = (r : Int) from hri] at h59
              have H59 := Lib.hid h59
              have hrl : r < R.length := hcor.1.lt
              have hne := hcor.1
              have hpos : 0 < (rd_L1 R (r : Int)).length := i1.rk.pos r hrl
              have hG := takeG i1.rk.to hrl hpos
              have HG := Lib.hid hG; have HPOS := Lib.hid hpos
              clear h59 i1 i2 hcor hstep hlen2 hUP hri he hp hr hfl hne hG hpos
              obtain ⟨go, cap, hA7, hgo1, hgo2, _⟩ := Kd.R_form HR.out (by rw [HLEN2.out]; omega)
              rw [HLEN2.out] at hA7
              injection hA7 with hA7 _ hcc
              subst hA7 hcc
              have hgB : go ≠ Bn := (HR.out.1 go (by simp [Value.ownBlock])).2
              have hBg : Bn ≠ go := fun e => hgB e.symm
              have hBw : w.heap.size ≤ wr.heap.size := HB.out.size
              have HGO := Lib.hid hgo1; have HBW := Lib.hid hBw
              clear hgo1 hgo2 hBw
              go_wp2_with (go_at_call 59; refine H59.out.mono ?_; rintro e w9 ⟨rfl, hb9⟩; have HZ9 := Lib.hid hb9; have z1 := pw_cell_below hb9 x1; have HB9 := Lib.hid (HB.out.trans (hb9.mono HBW.out)); clear hb9)
              have HBX9 : Hid (w9.heap[Bn]? = some (.cells #[.int .i64 ((k + 1 : Nat) : Int)] 3 (0, 0))) := (HZ9.out.block Bn (blk_lt HBX.out)).trans HBX.out
              have hs9 := HSt.out.below HZ9.out
              have HR9 := Lib.hid (Kd.R_below HR.out HZ9.out)
              have hs9d : StandO O w9.drew w.heap.size g bm n' D' v' R := hs9.below ((Below.refl _ _).drew)
              have hw9 : w.heap.size ≤ w9.heap.size := HB9.out.size
              have hw9d : w.heap.size ≤ w9.drew.heap.size := hw9
              have z1d : w9.drew.cell? ⟨Bn, 0, none⟩ = some (.int .i64 ((k + 1 : Nat) : Int)) := z1
              have hk12 : k ≤ 12 := by omega
              have hkN : k < N := by omega
              have hkw : IntKind.i64.wrap (k : Int) = (k : Int) := IntWalk.i64_in _ (by omega)
              go_region_law
                (first
                  | (go_simp; go_at_call 54; refine (take54o O w.heap.size g bm n' D' v' R r _ (by assumption) (by assumption) (by omega) (by omega) HI2.out hrl HPOS.out HG.out).mono ?_
                     rintro e w10 ⟨n2, D2, v2, rfl, hS10, hn10, hK10⟩
                     have hK : Kpt O w9 w10 := by first | exact hK10 | exact Kpt.after ((Kpt.refl O w9).drew) rfl hK10
                     have hS : StandO (ext O w9.heap.size) w10 w.heap.size g bm n2 D2 v2 (takeL R r).1 := hS10
                     obtain ⟨O2, hs1, hs2, hs3, hs4, hs5⟩ := stand_step hS hK HOb.out hw9
                     have HST10 := Lib.hid hs1; have HOB2 := Lib.hid hs2; have HON2 := Lib.hid hs3; have HB10 := Lib.hid (HB9.out.trans hs5)
                     have HR10 : Hid (Kd.R (Kd.int .i64) 3 w10 w.heap.size (fun q => ¬ O2 q ∧ q ≠ Bn) (.slice (some ⟨go, 0, none⟩) N c7) out) := Lib.hid (Kd.R_mono (Kd.R_step (Kd.R_bound HR9.out) (fun q hq hlt => (hs4 q hq.1.1 hlt).2)) (fun q hq => ⟨(hs4 q hq.1.1 hq.2.2.1).1, hq.1.2⟩))
                     have hbx := hs4 Bn HOn.out (blk_lt HBX9.out)
                     have HBX10 : Hid (w10.heap[Bn]? = some (.cells #[.int .i64 ((k + 1 : Nat) : Int)] 3 (0, 0))) := hbx.2.trans HBX9.out
                     have HNB := Lib.hid hbx.1
                     have y1 : w10.cell? ⟨Bn, 0, none⟩ = some (.int .i64 ((k + 1 : Nat) : Int)) := blk_cellA HBX10.out 0
                     obtain ⟨y2, y3⟩ := Kd.R_celln (0 : Int) HR10.out (k : Int) (by omega) (by omega)
                     rw [Int.toNat_natCast] at y2 y3
                     clear hS10 hK10 hK hS hs1 hs2 hs3 hs4 hs5 hbx))
              all_goals
                clear hkw y1 y2 y3 z1 z1d hs9 hs9d hw9 hw9d x1 x2
                have hngo := (HR10.out.1 go (by simp [Value.ownBlock])).1
                have hR11 := Kd.R_putn HR10.out (k : Int) (takeL R r).2
                rw [Int.toNat_natCast] at hR11
                have HR11 := Lib.hid hR11
                have HST11 := Lib.hid (HST10.out.keep (w1 := w10.setCell ⟨go, k, none⟩ (.int .i64 (takeL R r).2)) (fun q ho hlt => Below.heap_setCell w10 ⟨go, k, none⟩ _ q (fun e => hngo (show O2 go from (show q = go from e) ▸ ho))))
                have HBX11 := Lib.hid (blk_otherA HBX10.out hBg k (.int .i64 (takeL R r).2))
                have HB11 := Lib.hid (HB10.out.setCell (p := ⟨go, k, none⟩) HGO.out (.int .i64 (takeL R r).2))
                have HON11 : Hid (∀ q, (w10.setCell ⟨go, k, none⟩ (.int .i64 (takeL R r).2)).heap.size ≤ q → ¬ O2 q) := fun q hq => HON2.out q (by simpa [World.setCell] using hq)
                clear hR11 hngo HR10 HST10 HBX10 HB10
                generalize (w10.setCell ⟨go, k, none⟩ (.int .i64 (takeL R r).2)) = W11 at *
                have x1 : W11.cell? ⟨Bn, 0, none⟩ = some (.int .i64 ((k + 1 : Nat) : Int)) := blk_cellA HBX11.out 0
                go_wp2
                go_roundg k
                case measure => omega
                case rel =>
                  refine ⟨by omega, n2, D2, v2, O2, W11.heap.size, rfl, ?_, ?_, ?_, ?_, ?_, by omega, HOB2, ?_⟩
                  · rw [HSTEP.out]; exact HST11.out.below ((Below.refl _ _).alloc (Nat.le_refl _) _)
                  · rw [HSTEP.out]; exact Kd.R_below (Kd.R_mono (Kd.R_bound HR11.out) (fun q hq => ⟨hq.1.1, by have := hq.2.2.1; omega⟩)) ((Below.refl _ _).alloc (Nat.le_refl _) _)
                  · exact HON11.out _ (Nat.le_refl _)
                  · exact HB11.out.size
                  · exact heap_alloc_at rfl
                  · exact HB11.out.alloc HB11.out.size _
end Go.Proofs.Ytpbemjdaanlaoaa.Pr
/- Printed out of the translation by the kit's print.py: contracts of rack_CheckSequence, rack_rising, rack_CheckRising. -/
namespace Go.Proofs.Ytpbemjdaanlaoaa.Pr
open Go.RowKit Go.Proofs.YtpbemjdaanlaoaaW.PrintWords Go.Proofs.YtpbemjdaanlaoaaW.PrintLast Go.Proofs.YtpbemjdaanlaoaaW.PrintMore
attribute [local go_sem] max2_int min2_int max_two min_two max_three min_three max_four min_four   -- for this text's walks alone
set_option linter.unusedVariables false
set_option linter.unusedSimpArgs false
/-! ### rack_CheckSequence: function 23 -/
def rack_CheckSequence.f (l0 : List Int) : Option (Int) := if (l0.length : Int) > 12 then (some 6) else ((rack_within.f 1 99 l0).bind fun t187 => (if t187 = true then (some 0) else (some 3)))
set_option maxHeartbeats 8000000 in
set_option maxRecDepth 100000 in
theorem rack_CheckSequence.calls (A0 : Option Addr) (c0 : Nat) (l0 : List Int) (r : Int) (w : World) (hr0 : Kd.C (Kd.int .i64) w A0 l0.length l0) (hc0 : l0.length ≤ c0) (h : rack_CheckSequence.f l0 = some r) :
  Calls Try.prog 23 #[.slice A0 l0.length c0] w fun e w' => e = .returned (.int .i64 r) ∧ Below w.heap.size w w' := by
 have HR0 := Aside0.mk hr0
 have HC0 := Aside0.mk hc0
 clear hr0 hc0
 have HB := Aside0.mk (Below.refl w.heap.size w)
 have H : (if (l0.length : Int) > 12 then (some 6) else ((rack_within.f 1 99 l0).bind fun t187 => (if t187 = true then (some 0) else (some 3)))) = some r := h
 clear h
 by_cases c2 : (l0.length : Int) > 12
 ·
  rw [if_pos c2] at H
  have c2b0 : decide (12 < (l0.length : Int)) = true := decide_eq_true c2
  have c2b1 : decide (12 < l0.length) = true := decide_eq_true (by omega)
  clear c2
  obtain rfl := Option.some.inj H
  go_enter Try.func23, Try.ntmps23
  go_wp2
  go_ret
  exact ⟨by first | rfl | (simp [errW_none, errW_some] <;> rfl) | (simp [*, errW_none, errW_some] <;> rfl), by repeat (first | (with_reducible first | exact HB.out | apply below_alloc | apply pw_below_drewN | apply below_drew1) | exact HB.out)⟩
 ·
  rw [if_neg c2] at H
  have c2b0 : decide (12 < (l0.length : Int)) = false := decide_eq_false c2
  have c2b1 : decide (12 < l0.length) = false := decide_eq_false (by omega)
  clear c2
  replace H := Option.bind_eq_some_iff.mp H
  obtain ⟨t187, A30, H⟩ := H
  replace H : (if t187 = true then (some 0) else (some 3)) = some r := H
  have A3 := Aside0.mk A30
  clear A30
  by_cases c4 : t187 = true
  ·
   subst c4
   have H1 : (some 0) = some r := by rw [if_pos rfl] at H; exact H
   clear H
   have H := H1
   clear H1
   obtain rfl := Option.some.inj H
   go_enter Try.func23, Try.ntmps23
   go_wp2_with (first | ((with_reducible refine gate_callee (f := 42) rfl ?_); refine goesL_ (some 9) rfl rfl Try.func42 (by kernel_rfl) rfl #[.int .i64 1, .int .i64 99, .slice A0 l0.length c0] rfl (by (try simp only [List.map_toArray, List.map_cons, List.map_nil]); first | done | rfl | (simp only [List.length_drop, List.length_take]; rfl)) ?_; (with_reducible refine (rack_within.calls 1 99 _ _ l0 true _ ?side1 ?side2 A3.out).mono ?_); (case side1 => repeat (first | exact HR0.out | (with_reducible refine Kd.C_alloc ?_ _) | (with_reducible refine Kd.C_drewN ?_ _) | (with_reducible refine Kd.C_drew ?_))); (case side2 => exact HC0.out); rintro e w5 ⟨rfl, hb⟩; refine ⟨_, rfl, ?_⟩; have n0_ := Aside0.mk (below_step (by repeat (first | (with_reducible first | exact HB.out | apply below_alloc | apply pw_below_drewN | apply below_drew1) | exact HB.out)) hb); clear HB; have HB := n0_; clear n0_; (try clear hb); (try clear hb2); (try clear hk); (try clear hi)))
   go_ret
   exact ⟨by first | rfl | (simp [errW_none, errW_some] <;> rfl) | (simp [*, errW_none, errW_some] <;> rfl), by repeat (first | (with_reducible first | exact HB.out | apply below_alloc | apply pw_below_drewN | apply below_drew1) | exact HB.out)⟩
  ·
   replace c4 := Bool.eq_false_iff.mpr c4
   subst c4
   have H1 : (some 3) = some r := by rw [if_neg (show ¬ (false = true) by decide)] at H; exact H
   clear H
   have H := H1
   clear H1
   obtain rfl := Option.some.inj H
   go_enter Try.func23, Try.ntmps23
   go_wp2_with (first | ((with_reducible refine gate_callee (f := 42) rfl ?_); refine goesL_ (some 9) rfl rfl Try.func42 (by kernel_rfl) rfl #[.int .i64 1, .int .i64 99, .slice A0 l0.length c0] rfl (by (try simp only [List.map_toArray, List.map_cons, List.map_nil]); first | done | rfl | (simp only [List.length_drop, List.length_take]; rfl)) ?_; (with_reducible refine (rack_within.calls 1 99 _ _ l0 false _ ?side1 ?side2 A3.out).mono ?_); (case side1 => repeat (first | exact HR0.out | (with_reducible refine Kd.C_alloc ?_ _) | (with_reducible refine Kd.C_drewN ?_ _) | (with_reducible refine Kd.C_drew ?_))); (case side2 => exact HC0.out); rintro e w6 ⟨rfl, hb⟩; refine ⟨_, rfl, ?_⟩; have n0_ := Aside0.mk (below_step (by repeat (first | (with_reducible first | exact HB.out | apply below_alloc | apply pw_below_drewN | apply below_drew1) | exact HB.out)) hb); clear HB; have HB := n0_; clear n0_; (try clear hb); (try clear hb2); (try clear hk); (try clear hi)))
   go_ret
   exact ⟨by first | rfl | (simp [errW_none, errW_some] <;> rfl) | (simp [*, errW_none, errW_some] <;> rfl), by repeat (first | (with_reducible first | exact HB.out | apply below_alloc | apply pw_below_drewN | apply below_drew1) | exact HB.out)⟩

/-! ### rack_rising: function 69 -/
def rack_rising.l0 : Nat → Int → Int → List Int → Int → Int → Option (Bool)
 | 0, _, _, _, _, _ => none
 | k + 1, x1, x5, x8, x9, x10 => if x10 < x9 then (if 0 ≤ x10 then (if x10 < (x8.length : Int) then ((rack_within.f x5 (wrap64 (x1 - 1)) (([rd x8 x10] : List Int))).bind fun t192 => (if t192 = true then (rack_rising.l0 k x1 (wrap64 ((rd x8 x10) + 1)) x8 x9 (wrap64 (x10 + 1))) else (some false))) else (none)) else (none)) else (some true)
def rack_rising.f (k : Nat) (l0 : List Int) (a1 : Int) : Option (Bool) := rack_rising.l0 k a1 0 l0 (l0.length : Int) 0
theorem rack_rising.mono_l : ∀ k, (∀ y0 y1 y2 y3 y4, LeO (rack_rising.l0 k y0 y1 y2 y3 y4) (rack_rising.l0 (k + 1) y0 y1 y2 y3 y4))
 | 0 => fun _ _ _ _ _ r h => by simp [rack_rising.l0] at h
 | k + 1 => by
  have ih0 := rack_rising.mono_l k
  ·
   intro y0 y1 y2 y3 y4
   unfold rack_rising.l0
   repeat' first
   | (with_reducible exact ih0 _ _ _ _ _)
   | (with_reducible exact LeO.refl _)
   | (with_reducible exact LeO.none _)
   | (with_reducible refine LeO.ite ?_ ?_)
   | (with_reducible refine LeO.bind ?_ (fun _ => ?_))
   | exact ih0 _ _ _ _ _
   | exact LeO.none _
   | refine LeO.ite ?_ ?_
   | refine LeO.bind ?_ (fun _ => ?_)
theorem rack_rising.mono : ∀ a0 a1 k, LeO (rack_rising.f k a0 a1) (rack_rising.f (k + 1) a0 a1) := by
 intro a0 a1 k
 have ih0 := rack_rising.mono_l k
 unfold rack_rising.f
 repeat' first
   | (with_reducible exact ih0 _ _ _ _ _)
   | (with_reducible exact LeO.refl _)
   | (with_reducible exact LeO.none _)
   | (with_reducible refine LeO.ite ?_ ?_)
   | (with_reducible refine LeO.bind ?_ (fun _ => ?_))
   | exact ih0 _ _ _ _ _
   | exact LeO.none _
   | refine LeO.ite ?_ ?_
   | refine LeO.bind ?_ (fun _ => ?_)
set_option maxHeartbeats 8000000 in
set_option maxRecDepth 100000 in
theorem rack_rising.calls (k : Nat) (A0 : Option Addr) (c0 : Nat) (l0 : List Int) (a1 : Int) (r : Bool) (w : World) (hr0 : Kd.C (Kd.int .i64) w A0 l0.length l0) (hc0 : l0.length ≤ c0) (h : rack_rising.f k l0 a1 = some r) :
  Calls Try.prog 69 #[.slice A0 l0.length c0, .int .i64 a1] w fun e w' => e = .returned (.bool r) ∧ Below w.heap.size w w' := by
 have HR0 := Aside0.mk hr0
 have HC0 := Aside0.mk hc0
 clear hr0 hc0
 have HB := Aside0.mk (Below.refl w.heap.size w)
 have H : (rack_rising.l0 k a1 0 l0 (l0.length : Int) 0) = some r := h
 clear h
 have H' := Aside0.mk H
 clear H
 go_enter Try.func69, Try.ntmps69
 go_wp2
 go_loopg [5, 10] k (fun kq v5 v10 w' => ∃ (x5_1 : Int) (x10_1 : Int), v5 = .int .i64 x5_1 ∧ v10 = .int .i64 x10_1 ∧ Aside0 (rack_rising.l0 kq a1 x5_1 l0 (l0.length : Int) x10_1 = some r) ∧ Aside0 (kq ≤ k) ∧ Aside0 (Below w.heap.size w w'))
 case atStart => exact ⟨(0), (0), (by first | rfl | (simp; done) | (simp [*]; done)), (by first | rfl | (simp; done) | (simp [*]; done)), H', ⟨Nat.le_refl _⟩, ⟨by repeat (first | (with_reducible first | exact HB.out | apply below_alloc | apply pw_below_drewN | apply below_drew1) | exact HB.out)⟩⟩
 case round =>
  clear H'
  try clear p2
  obtain ⟨x5_1, x10_1, rfl, rfl, HA, HK1, HB⟩ := hrel
  cases gk with
  | zero => exact absurd HA.out (by simp [rack_rising.l0])
  | succ k1 =>
   have H := HA.out
   clear HA
   simp only [rack_rising.l0] at H
   by_cases c3 : x10_1 < (l0.length : Int)
   ·
    rw [if_pos c3] at H
    have c3b0 : decide (x10_1 < (l0.length : Int)) = true := decide_eq_true c3
    clear c3
    by_cases c4 : 0 ≤ x10_1
    ·
     rw [if_pos c4] at H
     have c4b0 : decide (0 ≤ x10_1) = true := decide_eq_true c4
     clear c4
     by_cases c5 : x10_1 < (l0.length : Int)
     ·
      rw [if_pos c5] at H
      have c5b0 : decide (x10_1 < (l0.length : Int)) = true := decide_eq_true c5
      clear c5
      obtain ⟨y189, hy189⟩ : ∃ y_ : List Int, y_ = (([rd l0 x10_1] : List Int)) := ⟨_, rfl⟩
      replace H : ((rack_within.f x5_1 (wrap64 (a1 - 1)) y189).bind fun t192 => (if t192 = true then (rack_rising.l0 k1 a1 (wrap64 ((rd l0 x10_1) + 1)) l0 (l0.length : Int) (wrap64 (x10_1 + 1))) else (some false))) = some r := by first | (rw [hy189]; with_reducible exact H) | (have H2_ := (Option.bind_some _ _).symm.trans H; rw [hy189]; with_reducible exact H2_) | (have H2_ := (Option.bind_some _ _).symm.trans H; with_reducible exact H2_) | with_reducible exact H | (rw [hy189]; exact H) | exact H
      have Ny189 := Aside0.mk hy189
      clear hy189
      replace H := Option.bind_eq_some_iff.mp H
      obtain ⟨t192, A60, H⟩ := H
      replace H : (if t192 = true then (rack_rising.l0 k1 a1 (wrap64 ((rd l0 x10_1) + 1)) l0 (l0.length : Int) (wrap64 (x10_1 + 1))) else (some false)) = some r := H
      have A6 := Aside0.mk A60
      clear A60
      by_cases c7 : t192 = true
      ·
       subst c7
       have H1 : (rack_rising.l0 k1 a1 (wrap64 ((rd l0 x10_1) + 1)) l0 (l0.length : Int) (wrap64 (x10_1 + 1))) = some r := by rw [if_pos rfl] at H; exact H
       clear H
       have H := H1
       clear H1
       have H' := Aside0.mk H
       clear H
       have p188 : 0 ≤ (x10_1 : Int) := of_decide_eq_true (by first | (with_reducible assumption) | assumption)
       have q188 : x10_1 < (l0.length : Int) := of_decide_eq_true (by first | (with_reducible assumption) | assumption)
       obtain ⟨ad188, e188, hx188_0⟩ := Kd.at_int HR0.out x10_1 p188 q188
       cases e188
       replace hx188_0 := (HB.out.cell (World.block_lt_of_cell? w _ hx188_0)).trans hx188_0
       replace p188 := eq_true p188
       replace q188 := eq_true q188
       go_wp2_with (first | ((with_reducible refine gate_dst (N := 18) rfl ?_); refine Kd.R_lit (Kd.int .i64) _ 3 ?hg (N := 18) ?hd (xs := ([rd l0 x10_1] : List Int)) (inner := [.int .i64 (rd l0 x10_1)]) (ok := fun _ => True) (okp := fun _ => True) ?hr ?hp (fun _ hk => hk) trivial (Below.refl _ _) (Nat.le_refl _) (by simp) ?_; (case hd => rfl); (case hg => rfl); (case hr => first | (go_simp; done) | (go_simp; rfl)); (case hp => exact (Reps.one (show Kd.M (Kd.int .i64) _ _ _ (rd l0 x10_1) [.int .i64 (rd l0 x10_1)] from rfl) (Reps.none _ _))); intro v190 w8 ho9 hb hg_ hnew_; clear hg_ hnew_; (first | rw [← Ny189.out] at ho9 | (simp only [Int.reduceToNat] at ho9; rw [← Ny189.out] at ho9)); have n0_ := Aside0.mk (Kd.R_lower ho9 (below_size (by repeat (first | (with_reducible first | exact HB.out | apply below_alloc | apply pw_below_drewN | apply below_drew1) | exact HB.out)))); have n1_ := Aside0.mk (below_step (by repeat (first | (with_reducible first | exact HB.out | apply below_alloc | apply pw_below_drewN | apply below_drew1) | exact HB.out)) hb); clear HB; have HO191 := n0_; have HB := n1_; clear n0_ n1_; clear hb ho9; obtain ⟨Ao10, co10, eo10⟩ := Kd.R_slice HO191.out; subst eo10) | ((with_reducible refine gate_callee (f := 42) rfl ?_); refine goesL_ (some 19) rfl rfl Try.func42 (by kernel_rfl) rfl #[.int .i64 x5_1, .int .i64 (wrap64 (a1 - 1)), .slice Ao10 y189.length co10] rfl (by (try simp only [List.map_toArray, List.map_cons, List.map_nil]); first | done | rfl | (simp only [List.length_drop, List.length_take]; rfl)) ?_; (with_reducible refine (rack_within.calls x5_1 (wrap64 (a1 - 1)) _ _ y189 true _ ?side1 ?side2 A6.out).mono ?_); (case side1 => repeat (first | exact (Kd.R_reads' HO191.out).2.2 | (with_reducible refine Kd.C_alloc ?_ _) | (with_reducible refine Kd.C_drewN ?_ _) | (with_reducible refine Kd.C_drew ?_))); (case side2 => exact (Kd.R_reads' HO191.out).2.1); rintro e w11 ⟨rfl, hb⟩; refine ⟨_, rfl, ?_⟩; have n0_ := Aside0.mk (Kd.R_below (by (with_reducible repeat (first | apply Kd.R_alloc | apply Kd.R_drewN | apply Kd.R_drew)); exact HO191.out) hb); have n1_ := Aside0.mk (below_step (by repeat (first | (with_reducible first | exact HB.out | apply below_alloc | apply pw_below_drewN | apply below_drew1) | exact HB.out)) hb); clear HO191; clear HB; have HO191 := n0_; have HB := n1_; clear n0_ n1_; (try clear hb); (try clear hb2); (try clear hk); (try clear hi)))
       go_roundg k1
       case measure => have := HK1.out; omega
       case rel => exact ⟨(wrap64 ((rd l0 x10_1) + 1)), (wrap64 (x10_1 + 1)), (by first | rfl | (simp; done) | (simp [*]; done)), (by first | rfl | (simp; done) | (simp [*]; done)), H', ⟨by have := HK1.out; omega⟩, ⟨by repeat (first | (with_reducible first | exact HB.out | apply below_alloc | apply pw_below_drewN | apply below_drew1) | exact HB.out)⟩⟩
      ·
       replace c7 := Bool.eq_false_iff.mpr c7
       subst c7
       have H1 : (some false) = some r := by rw [if_neg (show ¬ (false = true) by decide)] at H; exact H
       clear H
       have H := H1
       clear H1
       obtain rfl := Option.some.inj H
       have p188 : 0 ≤ (x10_1 : Int) := of_decide_eq_true (by first | (with_reducible assumption) | assumption)
       have q188 : x10_1 < (l0.length : Int) := of_decide_eq_true (by first | (with_reducible assumption) | assumption)
       obtain ⟨ad188, e188, hx188_0⟩ := Kd.at_int HR0.out x10_1 p188 q188
       cases e188
       replace hx188_0 := (HB.out.cell (World.block_lt_of_cell? w _ hx188_0)).trans hx188_0
       replace p188 := eq_true p188
       replace q188 := eq_true q188
       go_wp2_with (first | ((with_reducible refine gate_dst (N := 18) rfl ?_); refine Kd.R_lit (Kd.int .i64) _ 3 ?hg (N := 18) ?hd (xs := ([rd l0 x10_1] : List Int)) (inner := [.int .i64 (rd l0 x10_1)]) (ok := fun _ => True) (okp := fun _ => True) ?hr ?hp (fun _ hk => hk) trivial (Below.refl _ _) (Nat.le_refl _) (by simp) ?_; (case hd => rfl); (case hg => rfl); (case hr => first | (go_simp; done) | (go_simp; rfl)); (case hp => exact (Reps.one (show Kd.M (Kd.int .i64) _ _ _ (rd l0 x10_1) [.int .i64 (rd l0 x10_1)] from rfl) (Reps.none _ _))); intro v190 w12 ho13 hb hg_ hnew_; clear hg_ hnew_; (first | rw [← Ny189.out] at ho13 | (simp only [Int.reduceToNat] at ho13; rw [← Ny189.out] at ho13)); have n0_ := Aside0.mk (Kd.R_lower ho13 (below_size (by repeat (first | (with_reducible first | exact HB.out | apply below_alloc | apply pw_below_drewN | apply below_drew1) | exact HB.out)))); have n1_ := Aside0.mk (below_step (by repeat (first | (with_reducible first | exact HB.out | apply below_alloc | apply pw_below_drewN | apply below_drew1) | exact HB.out)) hb); clear HB; have HO191 := n0_; have HB := n1_; clear n0_ n1_; clear hb ho13; obtain ⟨Ao14, co14, eo14⟩ := Kd.R_slice HO191.out; subst eo14) | ((with_reducible refine gate_callee (f := 42) rfl ?_); refine goesL_ (some 19) rfl rfl Try.func42 (by kernel_rfl) rfl #[.int .i64 x5_1, .int .i64 (wrap64 (a1 - 1)), .slice Ao14 y189.length co14] rfl (by (try simp only [List.map_toArray, List.map_cons, List.map_nil]); first | done | rfl | (simp only [List.length_drop, List.length_take]; rfl)) ?_; (with_reducible refine (rack_within.calls x5_1 (wrap64 (a1 - 1)) _ _ y189 false _ ?side1 ?side2 A6.out).mono ?_); (case side1 => repeat (first | exact (Kd.R_reads' HO191.out).2.2 | (with_reducible refine Kd.C_alloc ?_ _) | (with_reducible refine Kd.C_drewN ?_ _) | (with_reducible refine Kd.C_drew ?_))); (case side2 => exact (Kd.R_reads' HO191.out).2.1); rintro e w15 ⟨rfl, hb⟩; refine ⟨_, rfl, ?_⟩; have n0_ := Aside0.mk (Kd.R_below (by (with_reducible repeat (first | apply Kd.R_alloc | apply Kd.R_drewN | apply Kd.R_drew)); exact HO191.out) hb); have n1_ := Aside0.mk (below_step (by repeat (first | (with_reducible first | exact HB.out | apply below_alloc | apply pw_below_drewN | apply below_drew1) | exact HB.out)) hb); clear HO191; clear HB; have HO191 := n0_; have HB := n1_; clear n0_ n1_; (try clear hb); (try clear hb2); (try clear hk); (try clear hi)))
       go_ret
       exact ⟨by first | rfl | (simp [errW_none, errW_some] <;> rfl) | (simp [*, errW_none, errW_some] <;> rfl), by repeat (first | (with_reducible first | exact HB.out | apply below_alloc | apply pw_below_drewN | apply below_drew1) | exact HB.out)⟩
     ·
      rw [if_neg c5] at H
      exact absurd H (by simp)
    ·
     rw [if_neg c4] at H
     exact absurd H (by simp)
   ·
    rw [if_neg c3] at H
    have c3b0 : decide (x10_1 < (l0.length : Int)) = false := decide_eq_false c3
    clear c3
    obtain rfl := Option.some.inj H
    go_wp2
    go_ret
    exact ⟨by first | rfl | (simp [errW_none, errW_some] <;> rfl) | (simp [*, errW_none, errW_some] <;> rfl), by repeat (first | (with_reducible first | exact HB.out | apply below_alloc | apply pw_below_drewN | apply below_drew1) | exact HB.out)⟩

/-! ### rack_CheckRising: function 35 -/
def rack_CheckRising.l0 : Nat → List Int → List Int → Int → List Int → Int → Int → Option (Int × Int)
 | 0, _, _, _, _, _, _ => none
 | k + 1, x0, x1, x7, x22, x23, x24 => if x24 < x23 then (if 0 ≤ x24 then (if x24 < (x22.length : Int) then (if 0 ≤ (rd x22 x24) then (if (rd x22 x24) < (x0.length : Int) then (if (rd x0 (rd x22 x24)) < x7 then (some (0, 22)) else (rack_CheckRising.l0 k x0 x1 (rd x0 (rd x22 x24)) x22 x23 (wrap64 (x24 + 1)))) else (none)) else (none)) else (none)) else (none)) else (some ((x1.length : Int), 0))
def rack_CheckRising.f (k : Nat) (l0 : List Int) (l1 : List Int) : Option (Int × Int) := (rack_CheckSequence.f l0).bind fun t193 => (if t193 = 0 then ((rack_rising.f k l1 (l0.length : Int)).bind fun t194 => (if t194 = true then (rack_CheckRising.l0 k l0 l1 0 l1 (l1.length : Int) 0) else (some (0, 3)))) else (some (0, t193)))
theorem rack_CheckRising.mono_l : ∀ k, (∀ y0 y1 y2 y3 y4 y5, LeO (rack_CheckRising.l0 k y0 y1 y2 y3 y4 y5) (rack_CheckRising.l0 (k + 1) y0 y1 y2 y3 y4 y5))
 | 0 => fun _ _ _ _ _ _ r h => by simp [rack_CheckRising.l0] at h
 | k + 1 => by
  have ih0 := rack_CheckRising.mono_l k
  ·
   intro y0 y1 y2 y3 y4 y5
   unfold rack_CheckRising.l0
   repeat' first
   | (with_reducible exact ih0 _ _ _ _ _ _)
   | (with_reducible exact rack_rising.mono _ _ _)
   | (with_reducible exact LeO.refl _)
   | (with_reducible exact LeO.none _)
   | (with_reducible refine LeO.ite ?_ ?_)
   | (with_reducible refine LeO.bind ?_ (fun _ => ?_))
   | exact ih0 _ _ _ _ _ _
   | exact rack_rising.mono _ _ _
   | exact LeO.none _
   | refine LeO.ite ?_ ?_
   | refine LeO.bind ?_ (fun _ => ?_)
theorem rack_CheckRising.mono : ∀ a0 a1 k, LeO (rack_CheckRising.f k a0 a1) (rack_CheckRising.f (k + 1) a0 a1) := by
 intro a0 a1 k
 have ih0 := rack_CheckRising.mono_l k
 unfold rack_CheckRising.f
 repeat' first
   | (with_reducible exact ih0 _ _ _ _ _ _)
   | (with_reducible exact rack_rising.mono _ _ _)
   | (with_reducible exact LeO.refl _)
   | (with_reducible exact LeO.none _)
   | (with_reducible refine LeO.ite ?_ ?_)
   | (with_reducible refine LeO.bind ?_ (fun _ => ?_))
   | exact ih0 _ _ _ _ _ _
   | exact rack_rising.mono _ _ _
   | exact LeO.none _
   | refine LeO.ite ?_ ?_
   | refine LeO.bind ?_ (fun _ => ?_)
set_option maxHeartbeats 8000000 in
set_option maxRecDepth 100000 in
theorem rack_CheckRising.calls (k : Nat) (A0 : Option Addr) (c0 : Nat) (l0 : List Int) (A1 : Option Addr) (c1 : Nat) (l1 : List Int) (r1 : Int) (r2 : Int) (w : World) (hr0 : Kd.C (Kd.int .i64) w A0 l0.length l0) (hc0 : l0.length ≤ c0) (hr1 : Kd.C (Kd.int .i64) w A1 l1.length l1) (hc1 : l1.length ≤ c1) (h : rack_CheckRising.f k l0 l1 = some (r1, r2)) :
  Calls Try.prog 35 #[.slice A0 l0.length c0, .slice A1 l1.length c1] w fun e w' => e = .returned (.tuple #[.int .i64 r1, .int .i64 r2]) ∧ Below w.heap.size w w' := by
 have HR0 := Aside0.mk hr0
 have HC0 := Aside0.mk hc0
 clear hr0 hc0
 have HR1 := Aside0.mk hr1
 have HC1 := Aside0.mk hc1
 clear hr1 hc1
 have HB := Aside0.mk (Below.refl w.heap.size w)
 have H : ((rack_CheckSequence.f l0).bind fun t193 => (if t193 = 0 then ((rack_rising.f k l1 (l0.length : Int)).bind fun t194 => (if t194 = true then (rack_CheckRising.l0 k l0 l1 0 l1 (l1.length : Int) 0) else (some (0, 3)))) else (some (0, t193)))) = some (r1, r2) := h
 clear h
 replace H := Option.bind_eq_some_iff.mp H
 obtain ⟨t193, A30, H⟩ := H
 replace H : (if t193 = 0 then ((rack_rising.f k l1 (l0.length : Int)).bind fun t194 => (if t194 = true then (rack_CheckRising.l0 k l0 l1 0 l1 (l1.length : Int) 0) else (some (0, 3)))) else (some (0, t193))) = some (r1, r2) := H
 have A3 := Aside0.mk A30
 clear A30
 by_cases c4 : t193 = 0
 ·
  rw [if_pos c4] at H
  have c4b0 : (t193 == 0) = true := beq_iff_eq.mpr c4
  have c4b1 : (t193 != 0) = false := bne_eq_false_iff_eq.mpr c4
  clear c4
  replace H := Option.bind_eq_some_iff.mp H
  obtain ⟨t194, A50, H⟩ := H
  replace H : (if t194 = true then (rack_CheckRising.l0 k l0 l1 0 l1 (l1.length : Int) 0) else (some (0, 3))) = some (r1, r2) := H
  have A5 := Aside0.mk A50
  clear A50
  by_cases c6 : t194 = true
  ·
   subst c6
   have H1 : (rack_CheckRising.l0 k l0 l1 0 l1 (l1.length : Int) 0) = some (r1, r2) := by rw [if_pos rfl] at H; exact H
   clear H
   have H := H1
   clear H1
   have H' := Aside0.mk H
   clear H
   go_enter Try.func35, Try.ntmps35
   go_wp2_with (first | ((with_reducible refine gate_callee (f := 23) rfl ?_); refine goesL_ (some 11) rfl rfl Try.func23 (by kernel_rfl) rfl #[.slice A0 l0.length c0] rfl (by (try simp only [List.map_toArray, List.map_cons, List.map_nil]); first | done | rfl | (simp only [List.length_drop, List.length_take]; rfl)) ?_; (with_reducible refine (rack_CheckSequence.calls _ _ l0 t193 _ ?side1 ?side2 A3.out).mono ?_); (case side1 => repeat (first | exact HR0.out | (with_reducible refine Kd.C_alloc ?_ _) | (with_reducible refine Kd.C_drewN ?_ _) | (with_reducible refine Kd.C_drew ?_))); (case side2 => exact HC0.out); rintro e w7 ⟨rfl, hb⟩; refine ⟨_, rfl, ?_⟩; have n0_ := Aside0.mk (below_step (by repeat (first | (with_reducible first | exact HB.out | apply below_alloc | apply pw_below_drewN | apply below_drew1) | exact HB.out)) hb); clear HB; have HB := n0_; clear n0_; (try clear hb); (try clear hb2); (try clear hk); (try clear hi)) | ((with_reducible refine gate_callee (f := 69) rfl ?_); refine goesL_ (some 20) rfl rfl Try.func69 (by kernel_rfl) rfl #[.slice A1 l1.length c1, .int .i64 (l0.length : Int)] rfl (by (try simp only [List.map_toArray, List.map_cons, List.map_nil]); first | done | rfl | (simp only [List.length_drop, List.length_take]; rfl)) ?_; (with_reducible refine (rack_rising.calls k _ _ l1 (l0.length : Int) true _ ?side1 ?side2 A5.out).mono ?_); (case side1 => repeat (first | exact (Kd.C_below HR1.out HB.out) | (with_reducible refine Kd.C_alloc ?_ _) | (with_reducible refine Kd.C_drewN ?_ _) | (with_reducible refine Kd.C_drew ?_))); (case side2 => exact HC1.out); rintro e w8 ⟨rfl, hb⟩; refine ⟨_, rfl, ?_⟩; have n0_ := Aside0.mk (below_step (by repeat (first | (with_reducible first | exact HB.out | apply below_alloc | apply pw_below_drewN | apply below_drew1) | exact HB.out)) hb); clear HB; have HB := n0_; clear n0_; (try clear hb); (try clear hb2); (try clear hk); (try clear hi)))
   go_loopg [7, 24] k (fun kq v7 v24 w' => ∃ (x7_1 : Int) (x24_1 : Int), v7 = .int .i64 x7_1 ∧ v24 = .int .i64 x24_1 ∧ Aside0 (rack_CheckRising.l0 kq l0 l1 x7_1 l1 (l1.length : Int) x24_1 = some (r1, r2)) ∧ Aside0 (kq ≤ k) ∧ Aside0 (Below w.heap.size w w'))
   case atStart => exact ⟨(0), (0), (by first | rfl | (simp; done) | (simp [*]; done)), (by first | rfl | (simp; done) | (simp [*]; done)), H', ⟨Nat.le_refl _⟩, ⟨by repeat (first | (with_reducible first | exact HB.out | apply below_alloc | apply pw_below_drewN | apply below_drew1) | exact HB.out)⟩⟩
   case round =>
    clear H'
    try clear c1
    try clear c2
    try clear p2
    try clear c3
    try clear c4
    try clear c4b0
    try clear c4b1
    try clear c6
    obtain ⟨x7_1, x24_1, rfl, rfl, HA, HK1, HB⟩ := hrel
    cases gk with
    | zero => exact absurd HA.out (by simp [rack_CheckRising.l0])
    | succ k1 =>
     have H := HA.out
     clear HA
     simp only [rack_CheckRising.l0] at H
     by_cases c9 : x24_1 < (l1.length : Int)
     ·
      rw [if_pos c9] at H
      have c9b0 : decide (x24_1 < (l1.length : Int)) = true := decide_eq_true c9
      clear c9
      by_cases c10 : 0 ≤ x24_1
      ·
       rw [if_pos c10] at H
       have c10b0 : decide (0 ≤ x24_1) = true := decide_eq_true c10
       clear c10
       by_cases c11 : x24_1 < (l1.length : Int)
       ·
        rw [if_pos c11] at H
        have c11b0 : decide (x24_1 < (l1.length : Int)) = true := decide_eq_true c11
        clear c11
        by_cases c12 : 0 ≤ (rd l1 x24_1)
        ·
         rw [if_pos c12] at H
         have c12b0 : decide (0 ≤ (rd l1 x24_1)) = true := decide_eq_true c12
         clear c12
         by_cases c13 : (rd l1 x24_1) < (l0.length : Int)
         ·
          rw [if_pos c13] at H
          have c13b0 : decide ((rd l1 x24_1) < (l0.length : Int)) = true := decide_eq_true c13
          clear c13
          by_cases c14 : (rd l0 (rd l1 x24_1)) < x7_1
          ·
           rw [if_pos c14] at H
           have c14b0 : decide ((rd l0 (rd l1 x24_1)) < x7_1) = true := decide_eq_true c14
           clear c14
           simp only [Option.some.injEq, Prod.mk.injEq] at H
           obtain ⟨rfl, rfl⟩ := H
           have p195 : 0 ≤ (x24_1 : Int) := of_decide_eq_true (by first | (with_reducible assumption) | assumption)
           have q195 : x24_1 < (l1.length : Int) := of_decide_eq_true (by first | (with_reducible assumption) | assumption)
           obtain ⟨ad195, e195, hx195_0⟩ := Kd.at_int HR1.out x24_1 p195 q195
           cases e195
           replace hx195_0 := (HB.out.cell (World.block_lt_of_cell? w _ hx195_0)).trans hx195_0
           replace p195 := eq_true p195
           replace q195 := eq_true q195
           have p196 : 0 ≤ ((rd l1 x24_1) : Int) := of_decide_eq_true (by first | (with_reducible assumption) | assumption)
           have q196 : (rd l1 x24_1) < (l0.length : Int) := of_decide_eq_true (by first | (with_reducible assumption) | assumption)
           obtain ⟨ad196, e196, hx196_0⟩ := Kd.at_int HR0.out (rd l1 x24_1) p196 q196
           cases e196
           replace hx196_0 := (HB.out.cell (World.block_lt_of_cell? w _ hx196_0)).trans hx196_0
           replace p196 := eq_true p196
           replace q196 := eq_true q196
           go_wp2
           go_ret2
           exact ⟨by first | rfl | (simp [errW_none, errW_some] <;> rfl) | (simp [*, errW_none, errW_some] <;> rfl), by repeat (first | (with_reducible first | exact HB.out | apply below_alloc | apply pw_below_drewN | apply below_drew1) | exact HB.out)⟩
          ·
           rw [if_neg c14] at H
           have c14b0 : decide ((rd l0 (rd l1 x24_1)) < x7_1) = false := decide_eq_false c14
           clear c14
           have H' := Aside0.mk H
           clear H
           have p195 : 0 ≤ (x24_1 : Int) := of_decide_eq_true (by first | (with_reducible assumption) | assumption)
           have q195 : x24_1 < (l1.length : Int) := of_decide_eq_true (by first | (with_reducible assumption) | assumption)
           obtain ⟨ad195, e195, hx195_0⟩ := Kd.at_int HR1.out x24_1 p195 q195
           cases e195
           replace hx195_0 := (HB.out.cell (World.block_lt_of_cell? w _ hx195_0)).trans hx195_0
           replace p195 := eq_true p195
           replace q195 := eq_true q195
           have p196 : 0 ≤ ((rd l1 x24_1) : Int) := of_decide_eq_true (by first | (with_reducible assumption) | assumption)
           have q196 : (rd l1 x24_1) < (l0.length : Int) := of_decide_eq_true (by first | (with_reducible assumption) | assumption)
           obtain ⟨ad196, e196, hx196_0⟩ := Kd.at_int HR0.out (rd l1 x24_1) p196 q196
           cases e196
           replace hx196_0 := (HB.out.cell (World.block_lt_of_cell? w _ hx196_0)).trans hx196_0
           replace p196 := eq_true p196
           replace q196 := eq_true q196
           have p197 : 0 ≤ ((rd l1 x24_1) : Int) := of_decide_eq_true (by first | (with_reducible assumption) | assumption)
           have q197 : (rd l1 x24_1) < (l0.length : Int) := of_decide_eq_true (by first | (with_reducible assumption) | assumption)
           obtain ⟨ad197, e197, hx197_0⟩ := Kd.at_int HR0.out (rd l1 x24_1) p197 q197
           obtain rfl : ad196 = ad197 := (by injection e197)
           replace hx197_0 := (HB.out.cell (World.block_lt_of_cell? w _ hx197_0)).trans hx197_0
           replace p197 := eq_true p197
           replace q197 := eq_true q197
           go_wp2
           go_roundg k1
           case measure => have := HK1.out; omega
           case rel => exact ⟨(rd l0 (rd l1 x24_1)), (wrap64 (x24_1 + 1)), (by first | rfl | (simp; done) | (simp [*]; done)), (by first | rfl | (simp; done) | (simp [*]; done)), H', ⟨by have := HK1.out; omega⟩, ⟨by repeat (first | (with_reducible first | exact HB.out | apply below_alloc | apply pw_below_drewN | apply below_drew1) | exact HB.out)⟩⟩
         ·
          rw [if_neg c13] at H
          exact absurd H (by simp)
        ·
         rw [if_neg c12] at H
         exact absurd H (by simp)
       ·
        rw [if_neg c11] at H
        exact absurd H (by simp)
      ·
       rw [if_neg c10] at H
       exact absurd H (by simp)
     ·
      rw [if_neg c9] at H
      have c9b0 : decide (x24_1 < (l1.length : Int)) = false := decide_eq_false c9
      clear c9
      simp only [Option.some.injEq, Prod.mk.injEq] at H
      obtain ⟨rfl, rfl⟩ := H
      go_wp2
      go_ret2
      exact ⟨by first | rfl | (simp [errW_none, errW_some] <;> rfl) | (simp [*, errW_none, errW_some] <;> rfl), by repeat (first | (with_reducible first | exact HB.out | apply below_alloc | apply pw_below_drewN | apply below_drew1) | exact HB.out)⟩
  ·
   replace c6 := Bool.eq_false_iff.mpr c6
   subst c6
   have H1 : (some (0, 3)) = some (r1, r2) := by rw [if_neg (show ¬ (false = true) by decide)] at H; exact H
   clear H
   have H := H1
   clear H1
   simp only [Option.some.injEq, Prod.mk.injEq] at H
   obtain ⟨rfl, rfl⟩ := H
   go_enter Try.func35, Try.ntmps35
   go_wp2_with (first | ((with_reducible refine gate_callee (f := 23) rfl ?_); refine goesL_ (some 11) rfl rfl Try.func23 (by kernel_rfl) rfl #[.slice A0 l0.length c0] rfl (by (try simp only [List.map_toArray, List.map_cons, List.map_nil]); first | done | rfl | (simp only [List.length_drop, List.length_take]; rfl)) ?_; (with_reducible refine (rack_CheckSequence.calls _ _ l0 t193 _ ?side1 ?side2 A3.out).mono ?_); (case side1 => repeat (first | exact HR0.out | (with_reducible refine Kd.C_alloc ?_ _) | (with_reducible refine Kd.C_drewN ?_ _) | (with_reducible refine Kd.C_drew ?_))); (case side2 => exact HC0.out); rintro e w15 ⟨rfl, hb⟩; refine ⟨_, rfl, ?_⟩; have n0_ := Aside0.mk (below_step (by repeat (first | (with_reducible first | exact HB.out | apply below_alloc | apply pw_below_drewN | apply below_drew1) | exact HB.out)) hb); clear HB; have HB := n0_; clear n0_; (try clear hb); (try clear hb2); (try clear hk); (try clear hi)) | ((with_reducible refine gate_callee (f := 69) rfl ?_); refine goesL_ (some 20) rfl rfl Try.func69 (by kernel_rfl) rfl #[.slice A1 l1.length c1, .int .i64 (l0.length : Int)] rfl (by (try simp only [List.map_toArray, List.map_cons, List.map_nil]); first | done | rfl | (simp only [List.length_drop, List.length_take]; rfl)) ?_; (with_reducible refine (rack_rising.calls k _ _ l1 (l0.length : Int) false _ ?side1 ?side2 A5.out).mono ?_); (case side1 => repeat (first | exact (Kd.C_below HR1.out HB.out) | (with_reducible refine Kd.C_alloc ?_ _) | (with_reducible refine Kd.C_drewN ?_ _) | (with_reducible refine Kd.C_drew ?_))); (case side2 => exact HC1.out); rintro e w16 ⟨rfl, hb⟩; refine ⟨_, rfl, ?_⟩; have n0_ := Aside0.mk (below_step (by repeat (first | (with_reducible first | exact HB.out | apply below_alloc | apply pw_below_drewN | apply below_drew1) | exact HB.out)) hb); clear HB; have HB := n0_; clear n0_; (try clear hb); (try clear hb2); (try clear hk); (try clear hi)))
   go_ret2
   exact ⟨by first | rfl | (simp [errW_none, errW_some] <;> rfl) | (simp [*, errW_none, errW_some] <;> rfl), by repeat (first | (with_reducible first | exact HB.out | apply below_alloc | apply pw_below_drewN | apply below_drew1) | exact HB.out)⟩
 ·
  rw [if_neg c4] at H
  have c4b0 : (t193 == 0) = false := beq_eq_false_iff_ne.mpr c4
  have c4b1 : (t193 != 0) = true := bne_iff_ne.mpr c4
  simp only [Option.some.injEq, Prod.mk.injEq] at H
  obtain ⟨rfl, rfl⟩ := H
  go_enter Try.func35, Try.ntmps35
  go_wp2_with (first | ((with_reducible refine gate_callee (f := 23) rfl ?_); refine goesL_ (some 11) rfl rfl Try.func23 (by kernel_rfl) rfl #[.slice A0 l0.length c0] rfl (by (try simp only [List.map_toArray, List.map_cons, List.map_nil]); first | done | rfl | (simp only [List.length_drop, List.length_take]; rfl)) ?_; (with_reducible refine (rack_CheckSequence.calls _ _ l0 t193 _ ?side1 ?side2 A3.out).mono ?_); (case side1 => repeat (first | exact HR0.out | (with_reducible refine Kd.C_alloc ?_ _) | (with_reducible refine Kd.C_drewN ?_ _) | (with_reducible refine Kd.C_drew ?_))); (case side2 => exact HC0.out); rintro e w17 ⟨rfl, hb⟩; refine ⟨_, rfl, ?_⟩; have n0_ := Aside0.mk (below_step (by repeat (first | (with_reducible first | exact HB.out | apply below_alloc | apply pw_below_drewN | apply below_drew1) | exact HB.out)) hb); clear HB; have HB := n0_; clear n0_; (try clear hb); (try clear hb2); (try clear hk); (try clear hi)))
  go_ret2
  exact ⟨by first | rfl | (simp [errW_none, errW_some] <;> rfl) | (simp [*, errW_none, errW_some] <;> rfl), by repeat (first | (with_reducible first | exact HB.out | apply below_alloc | apply pw_below_drewN | apply below_drew1) | exact HB.out)⟩

end Go.Proofs.Ytpbemjdaanlaoaa.Pr
set_option linter.unusedVariables false
set_option linter.unusedSimpArgs false
namespace Go.Proofs.Ytpbemjdaanlaoaa.Pr
open Go.RowKit Go.Proofs.YtpbemjdaanlaoaaW.PrintWords Go.Proofs.YtpbemjdaanlaoaaW.PrintLast Go.Proofs.YtpbemjdaanlaoaaW.PrintMore
open Go.Maps
set_option maxRecDepth 100000

def seqC (s : List Int) : Int := if 12 < s.length then 6 else if within_ 1 99 s = false then 3 else 0
def bldR (s : List Int) : (List (List Int)) × (List (List Int)) × Int := if seqC s ≠ 0 then ([], [], seqC s) else ((bS s s.length).1, (bS s s.length).2, 0)
def rack_Build.f (l0 : List Int) : Option ((List (List Int)) × (List (List Int)) × Int) := some (bldR l0)
theorem checkSeq23 (A0 : Option Addr) (c0 : Nat) (l0 : List Int) (w : World) (hr0 : Kd.C (Kd.int .i64) w A0 l0.length l0) (hc0 : l0.length ≤ c0) :
    Calls Try.prog 23 #[.slice A0 l0.length c0] w fun e w' => e = .returned (.int .i64 (seqC l0)) ∧ Below w.heap.size w w' := by
  refine rack_CheckSequence.calls A0 c0 l0 (seqC l0) w hr0 hc0 ?_
  unfold rack_CheckSequence.f seqC rack_within.f
  by_cases h1 : 12 < l0.length
  · rw [if_pos h1, if_pos (by omega)]
  · rw [if_neg h1, if_neg (by omega)]
    cases h2 : within_ 1 99 l0 <;> simp [h2]
theorem enters52 : EntersF 52 := fun _ _ => by kernel_rfl
theorem seqC_ok {s : List Int} (h : seqC s = 0) : s.length ≤ 12 ∧ within_ 1 99 s = true := by
  unfold seqC at h
  split at h
  · cases h
  · rename_i h1
    split at h
    · cases h
    · rename_i h2
      exact ⟨by omega, by simpa using h2⟩

set_option maxHeartbeats 4000000 in
theorem rack_Build.calls (A0 : Option Addr) (c0 : Nat) (l0 : List Int) (r1 : List (List Int)) (r2 : List (List Int)) (r3 : Int) (w : World) (hr0 : Kd.C (Kd.int .i64) w A0 l0.length l0) (hc0 : l0.length ≤ c0) (h : rack_Build.f l0 = some (r1, r2, r3)) :
    Calls Try.prog 19 #[.slice A0 l0.length c0] w fun e w' => ∃ v0_ v1_ : Value, e = .returned (.tuple #[v0_, v1_, .int .i64 r3]) ∧ Kd.S (Kd.slice 3 (Kd.int .i64)) 32 w' w.heap.size (fun k_ => some k_ ≠ (v1_ : Value).ownBlock) v0_ r1 ∧ Kd.S (Kd.slice 3 (Kd.int .i64)) 32 w' w.heap.size (fun k_ => some k_ ≠ (v0_ : Value).ownBlock) v1_ r2 ∧ Below w.heap.size w w' := by
  injection h with h
  have h23 := checkSeq23 A0 c0 l0 w hr0 hc0
  unfold bldR at h
  by_cases hk : seqC l0 ≠ 0
  · rw [if_pos hk] at h
    injection h with e1 h
    injection h with e2 e3
    subst e1 e2 e3
    have H23 := Lib.hid h23
    clear h23 hr0
    generalize seqC l0 = k at *
    have hk' : (k == 0) = false := by simpa using hk
    clear hk
    go_enter Try.func19, Try.ntmps19
    go_wp2_with (go_at_call 23; refine H23.out.mono ?_; rintro e w1 ⟨rfl, hb1⟩)
    go_ret3
    exact ⟨_, _, rfl, Kd.S_nil _ _ _ _ _, Kd.S_nil _ _ _ _ _, hb1⟩
  · rw [if_neg hk] at h
    have hk0 : seqC l0 = 0 := by
      by_cases hz : seqC l0 = 0
      · exact hz
      · exact absurd hz hk
    rw [hk0] at h23
    obtain ⟨hl12, hwi⟩ := seqC_ok hk0
    have hwf : ∀ x ∈ l0, wfi x := fun x hx => wfi_of (by have := within_true hwi x hx; omega)
    injection h with e1 h
    injection h with e2 e3
    subst e1 e2 e3
    have h43 : ∀ w1, Calls Try.prog 43 #[.slice none 0 0] w1 fun e w' => ∃ g bm n D v, e = .returned (.pointer (some ⟨g, 0, none⟩)) ∧ StandAt w' w1.heap.size g bm n D v [] ∧ HasP D (plF [] 0 0) ∧ n ≤ 1000 ∧ Below w1.heap.size w1 w' := fun w1 =>
      newStand43 none 0 [] w1 (by simp) (by simp) (fun x hx => by simp at hx) ⟨rfl, by simp, fun h => absurd h (by simp)⟩
    have hg52 : ∀ (xs : Array Value) (W : World), (callFunc 52 xs).run Try.prog W = .ok (.enter 52 xs) W := enters52
    have H23 := Lib.hid h23; have H43 := Lib.hid h43; have HR0 := Lib.hid hr0; have HWF := Lib.hid hwf
    clear h23 h43 hr0 hk hk0 hwi hwf
    go_enter Try.func19, Try.ntmps19
    go_wp2_with (first
      | (go_at_call 23; refine H23.out.mono ?_; rintro e w1 ⟨rfl, hb1⟩)
      | (go_at_call 43; refine (H43.out _).mono ?_; rintro e w2 ⟨g, bm, n0, D0, v0, rfl, hS, _, hn0, hb2⟩; have HSt0 := Lib.hid ((hS.lower hb1.size)); have HB0 := Lib.hid (hb1.trans (hb2.mono hb1.size)); clear hS hb1 hb2))
    obtain ⟨A0v, c0v, rfl⟩ : ∃ A c, v0 = .slice A 0 c := by obtain ⟨A, c, e⟩ := Kd.S_slice HSt0.out.row; exact ⟨A, c, e⟩
    go_loopw [6, 23] (fun o i wr => ∃ (k n : Nat) (D : DataW Unit) (v : Value) (O : Nat → Prop), k ≤ l0.length ∧ i = .int .i64 k ∧ Hid (StandO O wr w.heap.size g bm n D v (bS l0 k).1) ∧ Hid (Kd.S (Kd.slice 3 (Kd.int .i64)) 32 wr w.heap.size (fun q => ¬ O q) o (bS l0 k).2) ∧ n ≤ 1000 + 100 * k ∧ Hid (∀ q, O q → w.heap.size ≤ q) ∧ Hid (Below w.heap.size w wr)) (fun _ i _ => l0.length - (intOf i).toNat)
    case atStart =>
      exact ⟨0, n0, D0, _, _, Nat.zero_le _, rfl, HSt0.out.toO, Kd.S_nil _ _ _ _ _, hn0, (fun q hq => hq), HB0⟩
    case round =>
      obtain ⟨k, n, D, v, O, hk, rfl, HSt, HO, hn, HOB, HB⟩ := hrel
      obtain ⟨i1, i2, i3, i4⟩ := bS_inv HWF.out k
      by_cases hlt : k < l0.length
      · have hbs : bS l0 (k + 1) = ((putL (bS l0 k).1 (rd l0 (k : Int))).1, addO (bS l0 k).2 (putL (bS l0 k).1 (rd l0 (k : Int))).2.1.toNat ((k : Int) + 1)) := rfl
        generalize bS l0 k = p at *
        obtain ⟨rows, ord⟩ := p
        simp only at i1 i2 i3 i4 hbs HSt HO
        obtain ⟨ad, rfl, hcell⟩ := Kd.at_int (Kd.C_below HR0.out HB.out) (k : Int) (by omega) (by omega)
        rw [Int.toNat_natCast] at hcell
        have hx := rd_wfi HWF.out k
        obtain ⟨x, hxe⟩ : ∃ x, x = rd l0 (k : Int) := ⟨_, rfl⟩
        rw [← hxe] at hcell hx hbs
        have HXE := Lib.hid hxe
        clear hxe
        obtain ⟨j, hj, h1, h2, h3⟩ := putL_size i1 hx
        have hput := put52o O w.heap.size g bm n D v rows x wr HSt.out HB.out.size (by omega) (by omega) hx (i1.okR (by omega))
        rw [h1] at hput hbs
        rw [Int.toNat_natCast] at hbs
        generalize (putL rows x).2.2 = z at *
        have HPUT := Lib.hid hput; have HBS := Lib.hid hbs; have H1 := Lib.hid h1; have H2 := Lib.hid h2; have H3 := Lib.hid h3; have HI2 := Lib.hid i2; have HX := Lib.hid hx
        have hjo : j ≤ ord.length := by omega
        have hol : ord.length ≤ 1000 := by omega
        obtain ⟨Ao, co, rfl⟩ := Kd.S_slice HO.out
        clear hput hbs h1 h2 h3 i1 i2 hx
        have HI3 := Lib.hid i3
        clear i3
        by_cases hjn : j = ord.length
        · have hjb : ((j : Int) == ((ord.length : Nat) : Int)) = true := by simp; omega
          have HJ := Lib.hid hjn
          clear hjn
          have hadd : addO ord j ((k : Int) + 1) = (ord ++ [[]]).set j (rd_L1 (ord ++ [[]]) (j : Int) ++ [(k : Int) + 1]) := by unfold addO; rw [if_pos HJ.out]
          have HADD := Lib.hid hadd
          have hbl0 : (ord.length + 1) * 24 ≤ 140737488355328 := by omega
          have hjl : j < (ord ++ [[]]).length := by rw [List.length_append]; have := HJ.out; simp; omega
          have HJL := Lib.hid hjl
          have hrl : (rd_L1 (ord ++ [[]]) (j : Int)).length ≤ 1000 := by rw [rdL_get _ j hjl]; simp only [HJ.out]; simp
          have HRL := Lib.hid hrl
          clear hadd hjl hrl
          go_wp2_with (first
            | ((with_reducible refine gate_builtin (b := .append) (xs := #[.tmp 38, .tmp 39]) rfl ?_)
               at_builtin
               (refine Kd.S_append (Kd.slice 3 (Kd.int .i64)) (w0 := w1) w.heap.size rfl (.tmp 38) (.tmp 39) 22 32 (.slice none 0 0) 24 rfl Try.underlying22 info32 rfl (by decide) (by omega) (.slice Ao ord.length co) ord [] [.slice none 0 0] (fun q => ¬ O2 q) (fun _ => False) rfl rfl (Kd.M_row (Kd.R_nil _ _ _ _ _)) (fun _ h => h.elim) (fun q hq => HON.out q hq) (Kd.S_mono HOR1.out (fun q hq => ⟨hq, id⟩)) (Below.refl _ _) HBW.out hbl0 ?_)
               intro v2 W2 hS2 hb2 hg2 hat2
               (obtain ⟨go, cap, rfl, _⟩ := Kd.S_form hS2 (by simp))
               (have HST2 := Lib.hid (HST1.out.grown hg2 (fun q e => Kd.S_R HOR1.out |>.1 q e)))
               (have HB2 := Lib.hid (HB1.out.trans hb2))
               (have HWS := Lib.hid hg2.size)
               (have HBW := Lib.hid HB2.out.size)
               (obtain ⟨vk, q1, oki, hRk, hoki, hHk⟩ := S_elem hS2 j HJL.out)
               (obtain ⟨row, hrow⟩ : ∃ row, row = rd_L1 (ord ++ [[]]) (j : Int) := ⟨_, rfl⟩)
               (rw [← hrow] at hRk)
               (have HROW := Lib.hid hrow)
               have hbl : (row.length + 1) * 8 ≤ 140737488355328 := by rw [hrow]; have := HRL.out; omega
               (have hln : (ord ++ [([] : List Int)]).length = ord.length + 1 := by simp)
               (rw [hln] at hS2 hHk)
               have hjl1 : j < ord.length + 1 := by have := HJ.out; omega
               (obtain ⟨Ak, ck, rfl⟩ := Kd.R_slice hRk)
               have HRK := Lib.hid hRk; have HOKI := Lib.hid hoki; have HHK := Lib.hid hHk; have HOR2 := Lib.hid hS2
               clear hRk hoki hHk hS2 hb2 hg2 hat2 hrow hln)
            | ((with_reducible refine gate_builtin (b := .append) (xs := #[.tmp 46, .tmp 49]) rfl ?_); at_builtin; refine Kd.R_append (Kd.int .i64) (w0 := W2) w.heap.size rfl (.tmp 46) (.tmp 49) 32 3 (.int .i64 0) 8 rfl Try.underlying32 info3 rfl (by decide) (by omega) (.slice Ak row.length ck) row ((k : Int) + 1) [.int .i64 ((k : Int) + 1)] (fun q => oki q ∨ (¬ O2 q) ∧ W2.heap.size ≤ q) (fun _ => False) rfl rfl rfl (fun _ h => h.elim) (fun q hq => .inr ⟨HON.out q (by have := HWS.out; omega), hq⟩) (Kd.R_mono HRK.out (fun q hq => .inl hq)) (Below.refl _ _) (by have := HBW.out; omega) hbl ?_; intro v3 w3 hr3 hb3 hg3 hat3; obtain ⟨A9, c9, rfl⟩ := Kd.R_slice hr3; obtain ⟨⟨u3, y1⟩, y2, y3, y4, hS3⟩ := S_elem_back HOR2.out HJL.out HRK.out HOKI.out HHK.out hr3 hg3; have hST3 := (HST2.out.grown hg3 (fun q e => (HOKI.out q (HRK.out.1 q e)).1)).keep (w1 := w3.setCell ⟨go, j, none⟩ (.slice A9 (row ++ [(k : Int) + 1]).length c9)) (fun q ho hlt => Below.heap_setCell w3 ⟨go, j, none⟩ _ q (fun e => y4 (show O2 go from (show q = go from e) ▸ ho))); have hB3 := (HB2.out.trans (hb3.mono (Nat.le_refl _))).setCell (p := ⟨go, j, none⟩) y3 (.slice A9 (row ++ [(k : Int) + 1]).length c9); rw [show (row ++ [(k : Int) + 1]).length = row.length + 1 by simp] at hST3 hB3 hS3; have HST3 := Lib.hid hST3; have HB3 := Lib.hid hB3; have HOR3 := Lib.hid hS3; clear hST3 hB3 hS3 hr3 hb3 hg3 hat3 y3 y4)
            | ((with_reducible refine HPUT.out.mono ?_)
               rintro e w1 ⟨n', D', v', rfl, hS1, hn1, hK1⟩
               obtain ⟨O2, hs1, hs2, hs3, hs4, hs5⟩ := stand_step hS1 hK1 HOB.out HB.out.size
               have HST1 := Lib.hid hs1; have HOB2 := Lib.hid hs2; have HON := Lib.hid hs3; have HOR1 := Lib.hid (S_apart HO.out hs4); have HB1 := Lib.hid (HB.out.trans hs5)
               have HBW := Lib.hid HB1.out.size
               clear hS1 hK1 hs1 hs2 hs3 hs4 hs5))
          all_goals
            have hfin : (bS l0 (k + 1)).1 = (putL rows x).1 ∧ (bS l0 (k + 1)).2 = (ord ++ [[]]).set j (row ++ [(k : Int) + 1]) := by rw [HBS.out, HADD.out, ← HROW.out]; exact ⟨rfl, rfl⟩
            refine ⟨⟨k + 1, n', D', v', O2, by omega, by go_num, ?_, ?_, by omega, HOB2, HB3⟩, by simp [intOf]; omega⟩
            · rw [hfin.1]; exact HST3
            · rw [hfin.2]; exact HOR3
        · have hjb : ((j : Int) == ((ord.length : Nat) : Int)) = false := by simp; omega
          have hjl : j < ord.length := by omega
          have hadd : addO ord j ((k : Int) + 1) = ord.set j (rd_L1 ord (j : Int) ++ [(k : Int) + 1]) := by unfold addO; rw [if_neg hjn]
          have HADD := Lib.hid hadd
          have HJL := Lib.hid hjl
          have HRL := Lib.hid (lenL_at HI2.out (j : Int))
          obtain ⟨go, cap, hv, _⟩ := Kd.S_form HO.out (by omega)
          injection hv with hv1 _ hv3
          subst hv1 hv3
          clear hadd hjn
          go_wp2_with (first
            | (((with_reducible refine gate_builtin (b := .append) (xs := #[.tmp 46, .tmp 49]) rfl ?_))
               at_builtin
               (refine Kd.R_append (Kd.int .i64) (w0 := w1) w.heap.size rfl (.tmp 46) (.tmp 49) 32 3 (.int .i64 0) 8 rfl Try.underlying32 info3 rfl (by decide) (by omega) (.slice Ak row.length ck) row ((k : Int) + 1) [.int .i64 ((k : Int) + 1)] (fun q => oki q ∨ (¬ O2 q) ∧ w1.heap.size ≤ q) (fun _ => False) rfl rfl rfl (fun _ h => h.elim) (fun q hq => .inr ⟨HON.out q hq, hq⟩) (Kd.R_mono HRK.out (fun q hq => .inl hq)) (Below.refl _ _) HBW.out hbl ?_)
               intro v3 w3 hr3 hb3 hg3 hat3
               obtain ⟨A9, c9, rfl⟩ := Kd.R_slice hr3
               obtain ⟨⟨u3, y1⟩, y2, y3, y4, hS3⟩ := S_elem_back HOR1.out HJL.out HRK.out HOKI.out HHK.out hr3 hg3
               (have hST3 := (HST1.out.grown hg3 (fun q e => (HOKI.out q (HRK.out.1 q e)).1)).keep (w1 := w3.setCell ⟨go, j, none⟩ (.slice A9 (row ++ [(k : Int) + 1]).length c9)) (fun q ho hlt => Below.heap_setCell w3 ⟨go, j, none⟩ _ q (fun e => y4 (show O2 go from (show q = go from e) ▸ ho))))
               (have hB3 := (HB1.out.trans (hb3.mono (Nat.le_refl _))).setCell (p := ⟨go, j, none⟩) y3 (.slice A9 (row ++ [(k : Int) + 1]).length c9))
               rw [show (row ++ [(k : Int) + 1]).length = row.length + 1 by simp] at hST3 hB3 hS3
               have HST3 := Lib.hid hST3; have HB3 := Lib.hid hB3; have HOR3 := Lib.hid hS3
               clear hST3 hB3 hS3 hr3 hb3 hg3 hat3 y3 y4)
            | (((with_reducible refine HPUT.out.mono ?_); rintro e w1 ⟨n', D', v', rfl, hS1, hn1, hK1⟩; obtain ⟨O2, hs1, hs2, hs3, hs4, hs5⟩ := stand_step hS1 hK1 HOB.out HB.out.size; have HST1 := Lib.hid hs1; have HOB2 := Lib.hid hs2; have HON := Lib.hid hs3; have HOR1 := Lib.hid (S_apart HO.out hs4); have HB1 := Lib.hid (HB.out.trans hs5); have HBW := Lib.hid HB1.out.size; clear hS1 hK1 hs1 hs2 hs3 hs4 hs5; obtain ⟨vk, q1, oki, hRk, hoki, hHk⟩ := S_elem HOR1.out j HJL.out; obtain ⟨row, hrow⟩ : ∃ row, row = rd_L1 ord (j : Int) := ⟨_, rfl⟩; rw [← hrow] at hRk; have HROW := Lib.hid hrow; have hbl : (row.length + 1) * 8 ≤ 140737488355328 := (by rw [hrow]; have := HRL.out; omega); obtain ⟨Ak, ck, rfl⟩ := Kd.R_slice hRk; have HRK := Lib.hid hRk; have HOKI := Lib.hid hoki; have HHK := Lib.hid hHk; clear hRk hoki hHk hrow)))
          all_goals
            have hfin : (bS l0 (k + 1)).1 = (putL rows x).1 ∧ (bS l0 (k + 1)).2 = ord.set j (row ++ [(k : Int) + 1]) := by rw [HBS.out, HADD.out, ← HROW.out]; exact ⟨rfl, rfl⟩
            refine ⟨⟨k + 1, n', D', v', O2, by omega, by go_num, ?_, ?_, by omega, HOB2, HB3⟩, by simp [intOf]; omega⟩
            · rw [hfin.1]; exact HST3
            · rw [hfin.2]; exact HOR3
      · obtain rfl : k = l0.length := by omega
        obtain ⟨z0, z1, _⟩ := HSt.out.toAt.hv
        obtain ⟨Ao, co, rfl⟩ := Kd.S_slice HO.out
        go_wp2
        go_ret3
        exact ⟨_, _, rfl, Kd.S_mono HSt.out.row (fun q hq e => Kd.S_R HO.out |>.1 q e.symm hq), Kd.S_mono HO.out (fun q hq e => hq (Kd.S_R HSt.out.row |>.1 q e.symm)), HB.out⟩
end Go.Proofs.Ytpbemjdaanlaoaa.Pr
/- Printed out of the translation by the kit's print.py: contracts of rack_falls. -/
namespace Go.Proofs.Ytpbemjdaanlaoaa.Pr
open Go.RowKit Go.Proofs.YtpbemjdaanlaoaaW.PrintWords Go.Proofs.YtpbemjdaanlaoaaW.PrintLast Go.Proofs.YtpbemjdaanlaoaaW.PrintMore
attribute [local go_sem] max2_int min2_int max_two min_two max_three min_three max_four min_four   -- for this text's walks alone
set_option linter.unusedVariables false
set_option linter.unusedSimpArgs false
/-! ### rack_falls: function 73 -/
def rack_falls.l0 : Nat → List Int → List Int → Int → Option (Bool)
 | 0, _, _, _ => none
 | k + 1, x0, x1, x5 => if x5 < (x1.length : Int) then (if 0 ≤ x5 then (if 0 ≤ (wrap64 (x5 - 1)) then (if (wrap64 (x5 - 1)) < (x1.length : Int) then (if (rd x1 x5) ≤ (rd x1 (wrap64 (x5 - 1))) then (some false) else (if 0 ≤ (rd x1 x5) then (if (rd x1 x5) < (x0.length : Int) then (if 0 ≤ (rd x1 (wrap64 (x5 - 1))) then (if (rd x1 (wrap64 (x5 - 1))) < (x0.length : Int) then (if (rd x0 (rd x1 x5)) ≥ (rd x0 (rd x1 (wrap64 (x5 - 1)))) then (some false) else (rack_falls.l0 k x0 x1 (wrap64 (x5 + 1)))) else (none)) else (none)) else (none)) else (none))) else (none)) else (none)) else (none)) else (some true)
def rack_falls.f (k : Nat) (l0 : List Int) (l1 : List Int) : Option (Bool) := rack_falls.l0 k l0 l1 1
theorem rack_falls.mono_l : ∀ k, (∀ y0 y1 y2, LeO (rack_falls.l0 k y0 y1 y2) (rack_falls.l0 (k + 1) y0 y1 y2))
 | 0 => fun _ _ _ r h => by simp [rack_falls.l0] at h
 | k + 1 => by
  have ih0 := rack_falls.mono_l k
  ·
   intro y0 y1 y2
   unfold rack_falls.l0
   repeat' first
   | (with_reducible exact ih0 _ _ _)
   | (with_reducible exact LeO.refl _)
   | (with_reducible exact LeO.none _)
   | (with_reducible refine LeO.ite ?_ ?_)
   | (with_reducible refine LeO.bind ?_ (fun _ => ?_))
   | exact ih0 _ _ _
   | exact LeO.none _
   | refine LeO.ite ?_ ?_
   | refine LeO.bind ?_ (fun _ => ?_)
theorem rack_falls.mono : ∀ a0 a1 k, LeO (rack_falls.f k a0 a1) (rack_falls.f (k + 1) a0 a1) := by
 intro a0 a1 k
 have ih0 := rack_falls.mono_l k
 unfold rack_falls.f
 repeat' first
   | (with_reducible exact ih0 _ _ _)
   | (with_reducible exact LeO.refl _)
   | (with_reducible exact LeO.none _)
   | (with_reducible refine LeO.ite ?_ ?_)
   | (with_reducible refine LeO.bind ?_ (fun _ => ?_))
   | exact ih0 _ _ _
   | exact LeO.none _
   | refine LeO.ite ?_ ?_
   | refine LeO.bind ?_ (fun _ => ?_)
set_option maxHeartbeats 8000000 in
set_option maxRecDepth 100000 in
theorem rack_falls.calls (k : Nat) (A0 : Option Addr) (c0 : Nat) (l0 : List Int) (A1 : Option Addr) (c1 : Nat) (l1 : List Int) (r : Bool) (w : World) (hr0 : Kd.C (Kd.int .i64) w A0 l0.length l0) (hc0 : l0.length ≤ c0) (hr1 : Kd.C (Kd.int .i64) w A1 l1.length l1) (hc1 : l1.length ≤ c1) (h : rack_falls.f k l0 l1 = some r) :
  Calls Try.prog 73 #[.slice A0 l0.length c0, .slice A1 l1.length c1] w fun e w' => e = .returned (.bool r) ∧ Drawn0 w w' := by
 have HR0 := Aside0.mk hr0
 have HC0 := Aside0.mk hc0
 clear hr0 hc0
 have HR1 := Aside0.mk hr1
 have HC1 := Aside0.mk hc1
 clear hr1 hc1
 have H : (rack_falls.l0 k l0 l1 1) = some r := h
 clear h
 have H' := Aside0.mk H
 clear H
 go_enter Try.func73, Try.ntmps73
 go_wp2
 repeat (go_quiet (fail); try go_wp2)
 go_loopg [5] k (fun kq v5 w' => ∃ (x5_1 : Int), v5 = .int .i64 x5_1 ∧ Aside0 (rack_falls.l0 kq l0 l1 x5_1 = some r) ∧ Aside0 (kq ≤ k) ∧ Drawn0 w w')
 case atStart => exact ⟨(1), (by first | rfl | (simp; done) | (simp [*]; done)), H', ⟨Nat.le_refl _⟩, by repeat (first | exact Drawn0.refl _ | apply Drawn0.step)⟩
 case round =>
  clear H'
  try clear c1
  try clear p2
  obtain ⟨x5_1, rfl, HA, HK1, ⟨m1, rfl⟩⟩ := hrel
  cases gk with
  | zero => exact absurd HA.out (by simp [rack_falls.l0])
  | succ k1 =>
   have H := HA.out
   clear HA
   simp only [rack_falls.l0] at H
   by_cases c3 : x5_1 < (l1.length : Int)
   ·
    rw [if_pos c3] at H
    have c3b0 : decide (x5_1 < (l1.length : Int)) = true := decide_eq_true c3
    clear c3
    by_cases c4 : 0 ≤ x5_1
    ·
     rw [if_pos c4] at H
     have c4b0 : decide (0 ≤ x5_1) = true := decide_eq_true c4
     clear c4
     obtain ⟨ji5, hji5⟩ : ∃ j_ : Int, (wrap64 (x5_1 - 1)) = j_ := ⟨_, rfl⟩
     replace H : (if 0 ≤ (ji5) then (if (ji5) < (l1.length : Int) then (if (rd l1 x5_1) ≤ (rd l1 (ji5)) then (some false) else (if 0 ≤ (rd l1 x5_1) then (if (rd l1 x5_1) < (l0.length : Int) then (if 0 ≤ (rd l1 (ji5)) then (if (rd l1 (ji5)) < (l0.length : Int) then (if (rd l0 (rd l1 x5_1)) ≥ (rd l0 (rd l1 (ji5))) then (some false) else (rack_falls.l0 k1 l0 l1 (wrap64 (x5_1 + 1)))) else (none)) else (none)) else (none)) else (none))) else (none)) else (none)) = some r := by first | (rw [hji5] at H; exact H) | (simp only [hji5] at H ⊢; exact H)
     have hji5w : (IntKind.i64.wrap (x5_1 - 1)) = ji5 := (i64_w _).trans hji5
     by_cases c6 : 0 ≤ (ji5)
     ·
      rw [if_pos c6] at H
      have c6b0 : decide (0 ≤ (ji5)) = true := decide_eq_true c6
      clear c6
      by_cases c7 : (ji5) < (l1.length : Int)
      ·
       rw [if_pos c7] at H
       have c7b0 : decide ((ji5) < (l1.length : Int)) = true := decide_eq_true c7
       clear c7
       by_cases c8 : (rd l1 x5_1) ≤ (rd l1 (ji5))
       ·
        rw [if_pos c8] at H
        have c8b0 : decide ((rd l1 x5_1) ≤ (rd l1 (ji5))) = true := decide_eq_true c8
        clear c8
        obtain rfl := Option.some.inj H
        have p715 : 0 ≤ (x5_1 : Int) := of_decide_eq_true (by first | (with_reducible assumption) | assumption)
        have q715 : x5_1 < (l1.length : Int) := of_decide_eq_true (by first | (with_reducible assumption) | assumption)
        obtain ⟨ad715, e715, hx715_0⟩ := Kd.at_int HR1.out x5_1 p715 q715
        cases e715
        replace p715 := eq_true p715
        replace q715 := eq_true q715
        have p716 : 0 ≤ ((ji5) : Int) := of_decide_eq_true (by first | (with_reducible assumption) | assumption)
        have q716 : (ji5) < (l1.length : Int) := of_decide_eq_true (by first | (with_reducible assumption) | assumption)
        obtain ⟨ad716, e716, hx716_0⟩ := Kd.at_int HR1.out (ji5) p716 q716
        obtain rfl : ad715 = ad716 := (by injection e716)
        replace p716 := eq_true p716
        replace q716 := eq_true q716
        go_wp2
        repeat (go_quiet (fail); try go_wp2)
        go_ret
        exact ⟨by first | rfl | (simp; done) | (simp only [← hji5] <;> (first | rfl | simp)) | (simp [*]; done), by repeat (first | exact Drawn0.refl _ | apply Drawn0.step)⟩
       ·
        rw [if_neg c8] at H
        have c8b0 : decide ((rd l1 x5_1) ≤ (rd l1 (ji5))) = false := decide_eq_false c8
        clear c8
        by_cases c9 : 0 ≤ (rd l1 x5_1)
        ·
         rw [if_pos c9] at H
         have c9b0 : decide (0 ≤ (rd l1 x5_1)) = true := decide_eq_true c9
         clear c9
         by_cases c10 : (rd l1 x5_1) < (l0.length : Int)
         ·
          rw [if_pos c10] at H
          have c10b0 : decide ((rd l1 x5_1) < (l0.length : Int)) = true := decide_eq_true c10
          clear c10
          by_cases c11 : 0 ≤ (rd l1 (ji5))
          ·
           rw [if_pos c11] at H
           have c11b0 : decide (0 ≤ (rd l1 (ji5))) = true := decide_eq_true c11
           clear c11
           by_cases c12 : (rd l1 (ji5)) < (l0.length : Int)
           ·
            rw [if_pos c12] at H
            have c12b0 : decide ((rd l1 (ji5)) < (l0.length : Int)) = true := decide_eq_true c12
            clear c12
            by_cases c13 : (rd l0 (rd l1 x5_1)) ≥ (rd l0 (rd l1 (ji5)))
            ·
             rw [if_pos c13] at H
             have c13b0 : decide ((rd l0 (rd l1 (ji5))) ≤ (rd l0 (rd l1 x5_1))) = true := decide_eq_true c13
             clear c13
             obtain rfl := Option.some.inj H
             have p715 : 0 ≤ (x5_1 : Int) := of_decide_eq_true (by first | (with_reducible assumption) | assumption)
             have q715 : x5_1 < (l1.length : Int) := of_decide_eq_true (by first | (with_reducible assumption) | assumption)
             obtain ⟨ad715, e715, hx715_0⟩ := Kd.at_int HR1.out x5_1 p715 q715
             cases e715
             replace p715 := eq_true p715
             replace q715 := eq_true q715
             have p716 : 0 ≤ ((ji5) : Int) := of_decide_eq_true (by first | (with_reducible assumption) | assumption)
             have q716 : (ji5) < (l1.length : Int) := of_decide_eq_true (by first | (with_reducible assumption) | assumption)
             obtain ⟨ad716, e716, hx716_0⟩ := Kd.at_int HR1.out (ji5) p716 q716
             obtain rfl : ad715 = ad716 := (by injection e716)
             replace p716 := eq_true p716
             replace q716 := eq_true q716
             have p717 : 0 ≤ (x5_1 : Int) := of_decide_eq_true (by first | (with_reducible assumption) | assumption)
             have q717 : x5_1 < (l1.length : Int) := of_decide_eq_true (by first | (with_reducible assumption) | assumption)
             obtain ⟨ad717, e717, hx717_0⟩ := Kd.at_int HR1.out x5_1 p717 q717
             obtain rfl : ad715 = ad717 := (by injection e717)
             replace p717 := eq_true p717
             replace q717 := eq_true q717
             have p718 : 0 ≤ ((rd l1 x5_1) : Int) := of_decide_eq_true (by first | (with_reducible assumption) | assumption)
             have q718 : (rd l1 x5_1) < (l0.length : Int) := of_decide_eq_true (by first | (with_reducible assumption) | assumption)
             obtain ⟨ad718, e718, hx718_0⟩ := Kd.at_int HR0.out (rd l1 x5_1) p718 q718
             cases e718
             replace p718 := eq_true p718
             replace q718 := eq_true q718
             have p719 : 0 ≤ ((ji5) : Int) := of_decide_eq_true (by first | (with_reducible assumption) | assumption)
             have q719 : (ji5) < (l1.length : Int) := of_decide_eq_true (by first | (with_reducible assumption) | assumption)
             obtain ⟨ad719, e719, hx719_0⟩ := Kd.at_int HR1.out (ji5) p719 q719
             obtain rfl : ad715 = ad719 := (by injection e719)
             replace p719 := eq_true p719
             replace q719 := eq_true q719
             have p720 : 0 ≤ ((rd l1 (ji5)) : Int) := of_decide_eq_true (by first | (with_reducible assumption) | assumption)
             have q720 : (rd l1 (ji5)) < (l0.length : Int) := of_decide_eq_true (by first | (with_reducible assumption) | assumption)
             obtain ⟨ad720, e720, hx720_0⟩ := Kd.at_int HR0.out (rd l1 (ji5)) p720 q720
             obtain rfl : ad718 = ad720 := (by injection e720)
             replace p720 := eq_true p720
             replace q720 := eq_true q720
             go_wp2
             repeat (go_quiet (fail); try go_wp2)
             go_ret
             exact ⟨by first | rfl | (simp; done) | (simp only [← hji5] <;> (first | rfl | simp)) | (simp [*]; done), by repeat (first | exact Drawn0.refl _ | apply Drawn0.step)⟩
            ·
             rw [if_neg c13] at H
             have c13b0 : decide ((rd l0 (rd l1 (ji5))) ≤ (rd l0 (rd l1 x5_1))) = false := decide_eq_false c13
             clear c13
             have H' := Aside0.mk H
             clear H
             have p715 : 0 ≤ (x5_1 : Int) := of_decide_eq_true (by first | (with_reducible assumption) | assumption)
             have q715 : x5_1 < (l1.length : Int) := of_decide_eq_true (by first | (with_reducible assumption) | assumption)
             obtain ⟨ad715, e715, hx715_0⟩ := Kd.at_int HR1.out x5_1 p715 q715
             cases e715
             replace p715 := eq_true p715
             replace q715 := eq_true q715
             have p716 : 0 ≤ ((ji5) : Int) := of_decide_eq_true (by first | (with_reducible assumption) | assumption)
             have q716 : (ji5) < (l1.length : Int) := of_decide_eq_true (by first | (with_reducible assumption) | assumption)
             obtain ⟨ad716, e716, hx716_0⟩ := Kd.at_int HR1.out (ji5) p716 q716
             obtain rfl : ad715 = ad716 := (by injection e716)
             replace p716 := eq_true p716
             replace q716 := eq_true q716
             have p717 : 0 ≤ (x5_1 : Int) := of_decide_eq_true (by first | (with_reducible assumption) | assumption)
             have q717 : x5_1 < (l1.length : Int) := of_decide_eq_true (by first | (with_reducible assumption) | assumption)
             obtain ⟨ad717, e717, hx717_0⟩ := Kd.at_int HR1.out x5_1 p717 q717
             obtain rfl : ad715 = ad717 := (by injection e717)
             replace p717 := eq_true p717
             replace q717 := eq_true q717
             have p718 : 0 ≤ ((rd l1 x5_1) : Int) := of_decide_eq_true (by first | (with_reducible assumption) | assumption)
             have q718 : (rd l1 x5_1) < (l0.length : Int) := of_decide_eq_true (by first | (with_reducible assumption) | assumption)
             obtain ⟨ad718, e718, hx718_0⟩ := Kd.at_int HR0.out (rd l1 x5_1) p718 q718
             cases e718
             replace p718 := eq_true p718
             replace q718 := eq_true q718
             have p719 : 0 ≤ ((ji5) : Int) := of_decide_eq_true (by first | (with_reducible assumption) | assumption)
             have q719 : (ji5) < (l1.length : Int) := of_decide_eq_true (by first | (with_reducible assumption) | assumption)
             obtain ⟨ad719, e719, hx719_0⟩ := Kd.at_int HR1.out (ji5) p719 q719
             obtain rfl : ad715 = ad719 := (by injection e719)
             replace p719 := eq_true p719
             replace q719 := eq_true q719
             have p720 : 0 ≤ ((rd l1 (ji5)) : Int) := of_decide_eq_true (by first | (with_reducible assumption) | assumption)
             have q720 : (rd l1 (ji5)) < (l0.length : Int) := of_decide_eq_true (by first | (with_reducible assumption) | assumption)
             obtain ⟨ad720, e720, hx720_0⟩ := Kd.at_int HR0.out (rd l1 (ji5)) p720 q720
             obtain rfl : ad718 = ad720 := (by injection e720)
             replace p720 := eq_true p720
             replace q720 := eq_true q720
             go_wp2
             repeat (go_quiet (fail); try go_wp2)
             go_roundg k1
             case measure => have := HK1.out; omega
             case rel => exact ⟨(wrap64 (x5_1 + 1)), (by first | rfl | (simp; done) | (simp [*]; done)), H', ⟨by have := HK1.out; omega⟩, by repeat (first | exact Drawn0.refl _ | apply Drawn0.step)⟩
           ·
            rw [if_neg c12] at H
            exact absurd H (by simp)
          ·
           rw [if_neg c11] at H
           exact absurd H (by simp)
         ·
          rw [if_neg c10] at H
          exact absurd H (by simp)
        ·
         rw [if_neg c9] at H
         exact absurd H (by simp)
      ·
       rw [if_neg c7] at H
       exact absurd H (by simp)
     ·
      rw [if_neg c6] at H
      exact absurd H (by simp)
    ·
     rw [if_neg c4] at H
     exact absurd H (by simp)
   ·
    rw [if_neg c3] at H
    have c3b0 : decide (x5_1 < (l1.length : Int)) = false := decide_eq_false c3
    clear c3
    obtain rfl := Option.some.inj H
    go_wp2
    repeat (go_quiet (fail); try go_wp2)
    go_ret
    exact ⟨by first | rfl | (simp; done) | (simp [*]; done), by repeat (first | exact Drawn0.refl _ | apply Drawn0.step)⟩

end Go.Proofs.Ytpbemjdaanlaoaa.Pr
