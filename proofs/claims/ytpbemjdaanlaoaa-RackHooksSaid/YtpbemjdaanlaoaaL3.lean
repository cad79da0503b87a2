import Derived.Test.YtpbemjdaanlaoaaL2
import Derived.Test.YtpbemjdaanlaoaaK0
set_option linter.unusedVariables false
set_option linter.unusedSimpArgs false
namespace Go.Proofs.Ytpbemjdaanlaoaa.Pr
open Go.RowKit Go.Proofs.YtpbemjdaanlaoaaW.PrintWords Go.Proofs.YtpbemjdaanlaoaaW.PrintLast Go.Proofs.YtpbemjdaanlaoaaW.PrintMore
set_option maxRecDepth 100000
theorem lwHooks (A0 : Option Addr) (c0 : Nat) (s : List Int) (X1 : List (List Int)) (X2 : Int) (w : World) (h0 : CI w A0 s.length s) (hc0 : s.length ≤ c0) (hk : rack_Hooks.f s = some (X1, X2)) : Calls Try.prog 26 #[.slice A0 s.length c0] w fun e w' => retR X1.length X1 w w' e (fun v => .tuple #[v, .int .i64 X2]) :=
  (rack_Hooks.calls A0 c0 s X1 X2 w h0 hc0 hk).mono fun e w' ⟨v, h1, h2, h3⟩ => by
    obtain ⟨A, c, rfl, h4, h5⟩ := toR (w := w) (n := X1.length) rfl h2
    exact ⟨A, c, h1, h4, h5, h3⟩
theorem lwRefHooks (k : Nat) (A0 : Option Addr) (c0 : Nat) (s : List Int) (X1 : List (List Int)) (X2 : Int) (w : World) (h0 : CI w A0 s.length s) (hc0 : s.length ≤ c0) (hk : fippleref08_Hooks.f k s = some (X1, X2)) : Calls Try.prog 27 #[.slice A0 s.length c0] w fun e w' => retR X1.length X1 w w' e (fun v => .tuple #[v, .int .i64 X2]) :=
  (fippleref08_Hooks.calls k A0 c0 s X1 X2 w h0 hc0 hk).mono fun e w' ⟨v, h1, h2, h3⟩ => by
    obtain ⟨A, c, rfl, h4, h5⟩ := toR (w := w) (n := X1.length) rfl h2
    exact ⟨A, c, h1, h4, h5, h3⟩
theorem lwCount (k : Nat) (A0 : Option Addr) (c0 : Nat) (s : List Int) (X1 X2 : Int) (w : World) (h0 : CI w A0 s.length s) (hc0 : s.length ≤ c0) (hk : rack_Count.f k s = some (X1, X2)) : Calls Try.prog 28 #[.slice A0 s.length c0] w fun e w' => e = .returned (.tuple #[.int .i64 X1, .int .i64 X2]) ∧ Below w.heap.size w w' :=
  (rack_Count.calls k A0 c0 s X1 X2 w h0 hc0 hk).mono fun e w' ⟨h1, h2⟩ => ⟨h1, by first | exact h2 | exact drawn_below h2⟩
theorem lwRefCount (k : Nat) (A0 : Option Addr) (c0 : Nat) (s : List Int) (X1 X2 : Int) (w : World) (h0 : CI w A0 s.length s) (hc0 : s.length ≤ c0) (hk : fippleref08_Count.f k s = some (X1, X2)) : Calls Try.prog 29 #[.slice A0 s.length c0] w fun e w' => e = .returned (.tuple #[.int .i64 X1, .int .i64 X2]) ∧ Below w.heap.size w w' :=
  (fippleref08_Count.calls k A0 c0 s X1 X2 w h0 hc0 hk).mono fun e w' ⟨h1, h2⟩ => ⟨h1, by first | exact h2 | exact drawn_below h2⟩
set_option maxHeartbeats 1000000 in
theorem RackHooks_big (A0 : Option Addr) (c0 : Nat) (s : List Int) (w : World) (hr0 : CI w A0 s.length s) (hc0 : s.length ≤ c0) (h : 20 < s.length) : Calls Try.prog 6 #[.slice A0 s.length c0] w (retTrue w) := by
  have hm1 := hr0.2.1
  have hd1 : decide ((s.length : Int) > 20) = true := decide_eq_true (by omega)
  have hd1' : decide ((20 : Int) < (s.length : Int)) = true := decide_eq_true (by omega)
  go_enter Try.func6, Try.ntmps6
  have HB0 : Hid (Below w.heap.size w w) := Lib.hid (Below.refl _ _)
  go_wp2_with (go_at_call 8; ((with_reducible refine (worksTrue w).mono ?_)); rintro e w1 ⟨rfl, hb⟩; have HB1 : Hid (Below w.heap.size w w1) := Lib.hid (HB0.out.trans (hb.mono HB0.out.size)); clear hb)
  go_ret
  exact ⟨rfl, HB1.out⟩
set_option maxHeartbeats 8000000 in
theorem RackHooks_small (A0 : Option Addr) (c0 : Nat) (s : List Int) (w : World) (hr0 : CI w A0 s.length s) (hc0 : s.length ≤ c0) (h : s.length ≤ 20) (kH kC kD k1 kS : Nat) (X1 : List (List Int)) (X2 Y1 Y2 : Int) (eH : rack_Hooks.f s = some (X1, X2)) (eH' : fippleref08_Hooks.f kH s = some (X1, X2)) (eC : rack_Count.f kC s = some (Y1, Y2)) (eC' : fippleref08_Count.f kD s = some (Y1, Y2)) (iS : fipplelaw08_Ints.f kS s s = some true) (i1 : fipplelaw08_Same.f k1 X1 X1 = some true) : Calls Try.prog 6 #[.slice A0 s.length c0] w (retTrue w) := by
  have hd1 : decide ((s.length : Int) > 20) = false := decide_eq_false (by omega)
  have hd1' : decide ((20 : Int) < (s.length : Int)) = false := decide_eq_false (by omega)
  have HeH := Lib.hid eH
  have HeHx := Lib.hid eH'
  have HeC := Lib.hid eC
  have HeCx := Lib.hid eC'
  have HiS := Lib.hid iS
  have Hi1 := Lib.hid i1
  have Fs_0 := Lib.hid hr0
  clear eH eH' eC eC' iS i1 hr0
  go_enter Try.func6, Try.ntmps6
  have HB0 : Hid (Below w.heap.size w w) := Lib.hid (Below.refl _ _)
  go_wp2_with ((with_reducible refine gate_builtin (b := .append) (xs := #[.const (.slice none 0 0), .tmp 16]) rfl ?_); at_builtin; refine Kd.R_append_rows (Kd.int .i64) (Rr := (Kd.int .i64).K w) (w0 := w) w.heap.size rfl _ _ 32 3 (.int .i64 0) 8 rfl Try.underlying32 info3 rfl (by decide) (by omega) (.slice none 0 0) [] s A0 s.length c0 (fun _ => True) (fun _ => False) rfl rfl (Kd.R_nil _ _ _ _ _) Fs_0.out (fun _ _ h => h) (fun _ h => h.elim) (fun _ _ => trivial) (Below.refl _ _) (Nat.le_refl _) (by simp; omega) ?_; intro vt w1 ho hb hg hat; rw [List.nil_append] at ho; obtain ⟨At, ct, rfl, gt, hC⟩ := toI (w := w) (n := s.length) rfl ho; clear ho hg hat; have HB1 : Hid (Below w.heap.size w w1) := Lib.hid (HB0.out.trans (hb.mono HB0.out.size)); have Fs_1 := Lib.hid (Kd.C_below Fs_0.out hb); have Ft_1 := Lib.hid hC; clear hb hC)
  go_wp2_with (go_at_call 26; ((with_reducible refine (lwHooks A0 c0 s X1 X2 w1 Fs_1.out hc0 HeH.out).mono ?_)); rintro e w2 ⟨Aa, ca, rfl, ga, hC, hb⟩; have HB2 : Hid (Below w.heap.size w w2) := Lib.hid (HB1.out.trans (hb.mono HB1.out.size)); have Fs_2 := Lib.hid (Kd.C_below Fs_1.out hb); have Ft_2 := Lib.hid (Kd.C_below Ft_1.out hb); have Fa_2 := Lib.hid hC; clear hb hC)
  go_wp2_with (go_at_call 27; ((with_reducible refine (lwRefHooks kH At ct s X1 X2 w2 Ft_2.out gt HeHx.out).mono ?_)); rintro e w3 ⟨Ab, cb, rfl, gb, hC, hb⟩; have HB3 : Hid (Below w.heap.size w w3) := Lib.hid (HB2.out.trans (hb.mono HB2.out.size)); have Fs_3 := Lib.hid (Kd.C_below Fs_2.out hb); have Ft_3 := Lib.hid (Kd.C_below Ft_2.out hb); have Fa_3 := Lib.hid (Kd.C_below Fa_2.out hb); have Fb_3 := Lib.hid hC; clear hb hC)
  go_wp2_with (go_at_call 28; ((with_reducible refine (lwCount kC A0 c0 s Y1 Y2 w3 Fs_3.out hc0 HeC.out).mono ?_)); rintro e w4 ⟨rfl, hb⟩; have HB4 : Hid (Below w.heap.size w w4) := Lib.hid (HB3.out.trans (hb.mono HB3.out.size)); have Fs_4 := Lib.hid (Kd.C_below Fs_3.out hb); have Ft_4 := Lib.hid (Kd.C_below Ft_3.out hb); have Fa_4 := Lib.hid (Kd.C_below Fa_3.out hb); have Fb_4 := Lib.hid (Kd.C_below Fb_3.out hb); clear hb)
  go_wp2_with (go_at_call 29; ((with_reducible refine (lwRefCount kD At ct s Y1 Y2 w4 Ft_4.out gt HeCx.out).mono ?_)); rintro e w5 ⟨rfl, hb⟩; have HB5 : Hid (Below w.heap.size w w5) := Lib.hid (HB4.out.trans (hb.mono HB4.out.size)); have Fs_5 := Lib.hid (Kd.C_below Fs_4.out hb); have Ft_5 := Lib.hid (Kd.C_below Ft_4.out hb); have Fa_5 := Lib.hid (Kd.C_below Fa_4.out hb); have Fb_5 := Lib.hid (Kd.C_below Fb_4.out hb); clear hb)
  go_wp2_with (go_at_call 14; ((with_reducible refine (lwSame k1 Aa ca Ab cb X1 w5 Fa_5.out ga Fb_5.out gb Hi1.out).mono ?_)); rintro e w6 ⟨rfl, hb⟩; have HB6 : Hid (Below w.heap.size w w6) := Lib.hid (HB5.out.trans (hb.mono HB5.out.size)); have Fs_6 := Lib.hid (Kd.C_below Fs_5.out hb); have Ft_6 := Lib.hid (Kd.C_below Ft_5.out hb); have Fa_6 := Lib.hid (Kd.C_below Fa_5.out hb); have Fb_6 := Lib.hid (Kd.C_below Fb_5.out hb); clear hb)
  go_wp2_with (go_at_call 25; ((with_reducible refine (lwInts kS A0 c0 At ct s w6 Fs_6.out hc0 Ft_6.out gt HiS.out).mono ?_)); rintro e w7 ⟨rfl, hb⟩; have HB7 : Hid (Below w.heap.size w w7) := Lib.hid (HB6.out.trans (hb.mono HB6.out.size)); have Fs_7 := Lib.hid (Kd.C_below Fs_6.out hb); have Ft_7 := Lib.hid (Kd.C_below Ft_6.out hb); clear hb)
  go_wp2_with (go_at_call 8; ((with_reducible refine (worksTrue w7).mono ?_)); rintro e w8 ⟨rfl, hb⟩; have HB8 : Hid (Below w.heap.size w w8) := Lib.hid (HB7.out.trans (hb.mono HB7.out.size)); clear hb)
  go_ret
  exact ⟨rfl, HB8.out⟩
theorem RackHooks_true (A0 : Option Addr) (c0 : Nat) (s : List Int) (w : World) (hr0 : CI w A0 s.length s) (hc0 : s.length ≤ c0) : Calls Try.prog 6 #[.slice A0 s.length c0] w (retTrue w) := by
  by_cases h : 20 < s.length
  · exact RackHooks_big A0 c0 s w hr0 hc0 h
  obtain ⟨kH, hkH⟩ := (refHooks_ev s (by omega)).rounds
  obtain ⟨kC, hkC⟩ := (rackCount_ev s (by omega)).rounds
  obtain ⟨kD, hkD⟩ := (refCount_ev s (by omega)).rounds
  obtain ⟨b1, b2⟩ := hooks_small s
  obtain ⟨k1, hk1⟩ := (sameR_ev (hooksR s).1 b1 b2).rounds
  obtain ⟨kS, hkS⟩ := (intsI_ev s (by omega)).rounds
  exact RackHooks_small A0 c0 s w hr0 hc0 (by omega) kH kC kD k1 kS (hooksR s).1 (hooksR s).2 (countR s).1 (countR s).2 (by rw [rack_Hooks.f, if_pos (by omega)]) hkH hkC hkD hkS hk1
end Go.Proofs.Ytpbemjdaanlaoaa.Pr
