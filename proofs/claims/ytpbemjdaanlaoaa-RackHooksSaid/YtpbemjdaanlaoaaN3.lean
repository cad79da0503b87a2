/- Lemmas for the laws of rack: F4. -/
import Derived.Test.YtpbemjdaanlaoaaN2
set_option linter.unusedVariables false
set_option linter.unusedSimpArgs false
set_option linter.unusedVariables false
set_option linter.unusedSimpArgs false
namespace Go.Proofs.Ytpbemjdaanlaoaa.Pr
open Go.RowKit Go.Proofs.YtpbemjdaanlaoaaW.PrintWords Go.Proofs.YtpbemjdaanlaoaaW.PrintLast Go.Proofs.YtpbemjdaanlaoaaW.PrintMore
open Go.Maps
set_option maxRecDepth 100000

theorem all_loop (l : List (List Int)) (hl : l.length ≤ 1000) (hf : l.flatten.length ≤ 100000) : ∀ d j, l.length - j = d → j ≤ l.length → Ev (fun k => fippleref08_all.l0 k l (flatK l j) (j : Int)) l.flatten := by
  intro d
  induction d with
  | zero =>
    intro j h1 h2
    obtain rfl : j = l.length := by omega
    refine Ev.step (f := fun _ => some l.flatten) (fun k => ?_) (Ev.now _)
    simp only [fippleref08_all.l0]
    rw [if_neg (by omega), flat_all]
  | succ d ih =>
    intro j h1 h2
    have hj : j < l.length := by omega
    refine Ev.step (f := fun k => fippleref08_all.l0 k l (flatK l (j + 1)) ((j + 1 : Nat) : Int)) (fun k => ?_) (ih (j + 1) (by omega) (by omega))
    have hs := flat_succ l j hj
    have hle := flat_le l (j + 1)
    rw [hs, List.length_append] at hle
    simp only [fippleref08_all.l0]
    rw [if_pos (by omega), if_pos (by omega), if_pos (by omega), w1_ j (by omega), ← hs]
theorem all_ev (l : List (List Int)) (hl : l.length ≤ 1000) (hf : l.flatten.length ≤ 100000) : Ev (fun k => fippleref08_all.f k l) l.flatten := by
  have := all_loop l hl hf l.length 0 (by omega) (by omega)
  exact this
theorem has_loop (l : List Int) (x : Int) (hl : l.length ≤ 100000) : ∀ d j, l.length - j = d → j ≤ l.length → Ev (fun k => fippleref08_Has.l0 k l x (j : Int)) ((l.drop j).any fun n => n == x) := by
  intro d
  induction d with
  | zero =>
    intro j h1 h2
    obtain rfl : j = l.length := by omega
    refine Ev.step (f := fun _ => some false) (fun k => ?_) (by rw [List.drop_length]; exact Ev.now _)
    simp only [fippleref08_Has.l0]
    rw [if_neg (by omega)]
  | succ d ih =>
    intro j h1 h2
    have hj : j < l.length := by omega
    have hd : l.drop j = l[j] :: l.drop (j + 1) := List.drop_eq_getElem_cons hj
    rw [hd, List.any_cons]
    by_cases hx : l[j] = x
    · refine Ev.step (f := fun _ => some true) (fun k => ?_) (by simp [hx]; exact Ev.now _)
      simp only [fippleref08_Has.l0]
      rw [if_pos (by omega), if_pos (by omega), rd_get l j hj, if_pos hx]
    · refine Ev.step (f := fun k => fippleref08_Has.l0 k l x ((j + 1 : Nat) : Int)) (fun k => ?_) ?_
      · simp only [fippleref08_Has.l0]
        rw [if_pos (by omega), if_pos (by omega), rd_get l j hj, if_neg hx, w1_ j (by omega)]
      · have := ih (j + 1) (by omega) (by omega)
        rw [show (l[j] == x) = false by simp [hx], Bool.false_or]
        exact this
theorem has_ev (l : List Int) (x : Int) (hl : l.length ≤ 100000) : Ev (fun k => fippleref08_Has.f k l x) (l.any fun n => n == x) := by
  have := has_loop l x hl l.length 0 (by omega) (by omega)
  rw [List.drop_zero] at this
  exact this
theorem has50 (A : Option Addr) (c : Nat) (l : List Int) (x : Int) (w : World) (hr : Kd.C (Kd.int .i64) w A l.length l) (hc : l.length ≤ c) (hl : l.length ≤ 100000) :
    Calls Try.prog 50 #[.slice A l.length c, .int .i64 x] w fun e w' => e = .returned (.bool (l.any fun n => n == x)) ∧ ∃ n, w' = w.drewN n := by
  obtain ⟨k, hk⟩ := (has_ev l x hl).rounds
  exact (fippleref08_Has.calls k A c l x _ w hr hc hk).mono fun e w' ⟨h1, h2⟩ => ⟨h1, by obtain ⟨n, h⟩ := h2; exact ⟨n, h⟩⟩

set_option maxHeartbeats 4000000 in
theorem readOf64 (A0 : Option Addr) (c0 : Nat) (R : List (List Int)) (A1 : Option Addr) (c1 : Nat) (O : List (List Int)) (w : World) (hr0 : Kd.C (Kd.slice 3 (Kd.int .i64)) w A0 R.length R) (hc0 : R.length ≤ c0) (hr1 : Kd.C (Kd.slice 3 (Kd.int .i64)) w A1 O.length O) (hc1 : O.length ≤ c1)
    (hO : Od O) (hU : Upto O (O.flatten.length : Int) R) (hok : okR R) (hRl : R.length ≤ 12) (hN : R.flatten.length = O.flatten.length) :
    Calls Try.prog 64 #[.slice A0 R.length c0, .slice A1 O.length c1] w fun e w' => ∃ v0_ : Value, e = .returned v0_ ∧ Kd.R (Kd.int .i64) 3 w' w.heap.size (fun _ => True) v0_ (rdS O R O.flatten.length O.flatten.length).2 ∧ Below w.heap.size w w' := by
  have hOl : O.length ≤ 12 := Nat.le_trans (rises_len hO.ris) hO.le
  obtain ⟨N, hNN⟩ : ∃ N, N = O.flatten.length := ⟨_, rfl⟩
  have hN12 : N ≤ 12 := by rw [hNN]; exact hO.le
  rw [← hNN] at hN hU ⊢
  obtain ⟨ka, hka⟩ := (all_ev R (by omega) (by omega)).rounds
  have h45 := fippleref08_all.calls ka A0 c0 R R.flatten w hr0 hc0 hka
  have hlL : lenL 1000 R := fun r hr => (hok r hr).1
  have h85 : ∀ w1, Below w.heap.size w w1 → Calls Try.prog 85 #[.slice A0 R.length c0] w1 fun e w' => ∃ v0_ : Value, e = .returned (v0_) ∧ Kd.S (Kd.slice 3 (Kd.int .i64)) 32 w' w1.heap.size (fun _ => True) v0_ R ∧ Below w1.heap.size w1 w' := fun w1 hB => copy85 A0 c0 R w1 (Kd.C_below hr0 hB) hc0 (by omega) hlL
  have H45 := Lib.hid h45; have H85 := Lib.hid h85; have HNN := Lib.hid hNN; have HU := Lib.hid hU; have HO := Lib.hid hO; have HOK := Lib.hid hok; have HR1 := Lib.hid hr1
  generalize R.flatten = fl at *
  have HNF := Lib.hid hN
  clear h45 h85 hNN hU hO hok hr1 hr0 hlL hka hN
  go_enter Try.func64, Try.ntmps64
  go_wp2_with (first
    | (go_at_call 45; refine H45.out.mono ?_; rintro e w6 ⟨v6, rfl, hR6, hb6⟩; obtain ⟨A6, c6, rfl⟩ := Kd.R_slice hR6; rw [HNF.out]; have HB6 := Lib.hid hb6; clear hR6 hb6)
    | ((with_reducible refine gate_dst (N := 14) rfl ?_); refine Kd.R_make (Kd.int .i64) w.heap.size 3 rfl (N := 14) rfl 32 _ _ rfl (N : Int) rfl rfl Try.underlying32 (.int .i64 0) 8 info3 rfl (by decide) (by omega) 0 (ok := fun _ => True) (okp := fun _ => False) rfl (fun _ hk => hk.elim) trivial (by omega) (by omega) (Below.refl _ _) HB6.out.size ?_; intro v7 w7 hR7 hb7 hg7 hat7; rw [Int.toNat_natCast] at hR7; have HB7 := Lib.hid (HB6.out.trans hb7); obtain ⟨A7, c7, rfl⟩ := Kd.R_slice hR7; rw [List.length_replicate] at hR7 ⊢; have HR7 := Lib.hid (Kd.R_tight rfl hR7); clear hR7 hb7 hg7 hat7)
    | (go_at_call 85; refine (H85.out _ HB7.out).mono ?_; rintro e w8 ⟨v8, rfl, hS8, hb8⟩; have HR8 := Lib.hid (Kd.R_below HR7.out hb8); have HS8 := Lib.hid (Kd.S_lower (Kd.S_mono (Kd.S_bound hS8) (ok' := fun q => some q ≠ (Value.slice A7 N c7).ownBlock) (fun q hq e => by have h1 := Kd.R_lt HR7.out q e.symm; have h2 := hq.2.1; omega)) HB7.out.size); have HB8 := Lib.hid (HB7.out.trans (hb8.mono HB7.out.size)); obtain ⟨A8, c8, rfl⟩ := Kd.S_slice hS8; clear hS8 hb8))
  go_loopw [6, 7] (fun p i wr => ∃ (m : Nat), m ≤ N ∧ i = .int .i64 m ∧ Hid (Kd.S (Kd.slice 3 (Kd.int .i64)) 32 wr w.heap.size (fun q => some q ≠ (Value.slice A7 N c7).ownBlock) p (rdS O R N (N - m)).1) ∧ Hid (Kd.R (Kd.int .i64) 3 wr w.heap.size (fun q => some q = (Value.slice A7 N c7).ownBlock) (.slice A7 N c7) (rdS O R N (N - m)).2) ∧ Hid (Below w.heap.size w wr)) (fun _ i _ => (intOf i).toNat)
  case atStart =>
    refine ⟨N, Nat.le_refl _, rfl, ?_, ?_, HB8⟩
    · rw [Nat.sub_self]; exact HS8
    · rw [Nat.sub_self]; exact HR8
  case round =>
    obtain ⟨m, hm, rfl, HS, HR, HB⟩ := hrel
    cases m with
    | zero =>
      obtain ⟨Ap, cp, rfl⟩ := Kd.S_slice HS.out
      go_wp2
      go_ret
      exact ⟨_, rfl, Kd.R_mono HR.out (fun _ _ => trivial), HB.out⟩
    | succ k =>
      have hfl : N = O.flatten.length := HNN.out
      obtain ⟨r, p, hr, hp, he, hri, hra, hrb⟩ := row_of HO.out (m := ((k + 1 : Nat) : Int)) (by omega) (by omega)
      have hUP := HU.out
      rw [hfl] at hUP
      obtain ⟨i1, i2, i3⟩ := rdS_inv HO.out hUP HOK.out hRl (N - (k + 1)) (by omega)
      rw [← hfl] at i1 i2 i3
      have ej : ((N : Int) - ((N - (k + 1) : Nat) : Int)) = ((k + 1 : Nat) : Int) := by omega
      rw [ej] at i1
      have hcor := i1.corner HO.out hp he
      have hstep : rdS O R N (N - k) = ((takeL (rdS O R N (N - (k + 1))).1 r).1, (rdS O R N (N - (k + 1))).2.set k (takeL (rdS O R N (N - (k + 1))).1 r).2) := by
        rw [show N - k = (N - (k + 1)) + 1 by omega]
        show ((takeL _ (rowI O ((N : Int) - ((N - (k + 1) : Nat) : Int))).toNat).1, _) = _
        rw [ej, hri, Int.toNat_natCast, show N - (N - (k + 1)) - 1 = k by omega]
      have hlen2 := rdS_len O R N (N - (k + 1))
      generalize rdS O R N (N - (k + 1)) = s at *
      obtain ⟨R2, out⟩ := s
      simp only at HS HR i1 i2 i3 hcor hstep hlen2
      obtain ⟨Ap, cp, rfl⟩ := Kd.S_slice HS.out
      have HI1 := Lib.hid i1; have HI2 := Lib.hid i2; have HCOR := Lib.hid hcor; have HSTEP := Lib.hid hstep; have HLEN2 := Lib.hid hlen2; have HRA := Lib.hid hra; have HRB := Lib.hid hrb
      obtain ⟨go, cap, hA7, hgo1, hgo2, _⟩ := Kd.R_form HR.out (by rw [HLEN2.out]; omega)
      rw [HLEN2.out] at hA7
      injection hA7 with hA7 _ hcc
      subst hA7 hcc
      have HGO := Lib.hid hgo1
      have hrO : r ≤ 12 := by omega
      have hkN : k < N := by omega
      clear i1 i2 hcor hstep hlen2 hUP hri he hp hfl hgo1 hgo2 hra hrb ej
      go_wp2
      go_loopw [8] (fun i wq => ∃ (r' nd : Nat), r' ≤ r ∧ i = .int .i64 r' ∧ wq = wr.drewN nd) (fun i _ => r - (intOf i).toNat)
      case atStart => exact ⟨0, 0, Nat.zero_le _, rfl, rfl⟩
      case round =>
        obtain ⟨r', nd, hr', rfl, rfl⟩ := hrel
        have hbd : Below wr.heap.size wr (wr.drewN nd) := pw_below_drewN (Below.refl _ _) nd
        have hbw : Below w.heap.size w (wr.drewN nd) := HB.out.trans (hbd.mono HB.out.size)
        obtain ⟨ad, A2, c2, rfl, q1, q2, q3⟩ := at_L1 (Kd.C_below HR1.out hbw) (r' : Int) (by omega) (by omega)
        rw [Int.toNat_natCast] at q1
        have hrl2 : (rd_L1 O (r' : Int)).length ≤ 100000 := by
          have h1 : rd_L1 O (r' : Int) ∈ O := by rw [rdL_get O r' (by omega)]; exact List.getElem_mem _
          have := row_le_flat O _ h1
          have := HO.out.le
          omega
        have h50 := has50 A2 c2 (rd_L1 O (r' : Int)) ((k + 1 : Nat) : Int) (wr.drewN nd) q3 q2 hrl2
        have HBW := Lib.hid hbw; have HBD := Lib.hid hbd
        clear hbd hbw q3
        by_cases hrr : r' < r
        · rw [HRB.out r' hrr] at h50
          have H50 := Lib.hid h50
          clear h50
          go_wp2_with (go_at_call 50; refine H50.out.mono ?_; rintro e w9 ⟨rfl, n9, rfl⟩)
          go_roundw
          case rel => exact ⟨r' + 1, nd + n9, by omega, by go_num, rfl⟩
          case measure => simp [intOf]; omega
        · obtain rfl : r' = r := by omega
          rw [HRA.out] at h50
          have H50 := Lib.hid h50
          clear h50
          have hC2 := (Kd.S_reads' HS.out).2
          have h56 : ∀ n9, Calls Try.prog 56 #[.slice Ap R2.length cp, .int .i64 (r' : Int)] (wr.drewN n9) fun e w' => ∃ v0_ : Value, e = .returned (.tuple #[v0_, .int .i64 (takeL R2 r').2]) ∧ Kd.S (Kd.slice 3 (Kd.int .i64)) 32 w' wr.heap.size (fun _ => True) v0_ (takeL R2 r').1 ∧ Below wr.heap.size wr w' := fun n9 => by
            have hb9 : Below wr.heap.size wr (wr.drewN n9) := pw_below_drewN (Below.refl _ _) n9
            exact (takeOf56 Ap cp R2 r' _ (Kd.C_below hC2.2 hb9) hC2.1 (by omega) (fun r hr => (HI2.out r hr).1) HI1.out.rk HCOR.out.1).mono fun e w' ⟨v, h1, h2, h3⟩ => ⟨v, h1, h2, hb9.trans h3⟩
          have H56 := Lib.hid h56
          clear h56 hC2
          go_wp2_with (first
            | (go_at_call 50; refine H50.out.mono ?_; rintro e w9 ⟨rfl, n9, rfl⟩)
            | (go_at_call 56; refine (H56.out _).mono ?_; rintro e w10 ⟨v10, rfl, hS10, hb10⟩; obtain ⟨A10, c10, rfl⟩ := Kd.S_slice hS10; have HR10 := Lib.hid (Kd.R_below HR.out hb10); obtain ⟨y2, y3⟩ := Kd.R_celln (0 : Int) HR10.out (k : Int) (by omega) (by omega); rw [Int.toNat_natCast] at y2 y3; have HS10 := Lib.hid (Kd.S_mono (Kd.S_bound hS10) (ok' := fun q => some q ≠ (Value.slice (some ⟨go, 0, none⟩) N c7).ownBlock) (fun q hq e => by have h1 := Kd.R_lt HR.out q e.symm; have h2 := hq.2.1; omega)); have HB10 := Lib.hid (HB.out.trans (hb10.mono HB.out.size)); clear hS10 hb10))
          refine ⟨⟨k, by omega, rfl, ?_, ?_, HB10.out.setCell (p := ⟨go, k, none⟩) HGO.out _⟩, by simp [intOf]⟩
          · rw [HSTEP.out]
            exact Kd.S_far (p := ⟨go, k, none⟩) (Kd.S_lower HS10.out HB.out.size) (fun q hq e => hq (by rw [show q = go from e]; simp [Value.ownBlock])) _
          · rw [HSTEP.out]
            have h9 := Kd.R_putn HR10.out (k : Int) (takeL R2 r').2
            rw [Int.toNat_natCast] at h9
            exact h9
end Go.Proofs.Ytpbemjdaanlaoaa.Pr
