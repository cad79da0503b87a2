import Derived.Test.YtmlahfidnfdhbaaF9
set_option linter.unusedSimpArgs false
set_option linter.unusedVariables false
namespace Go.Proofs.Ytmlahfidnfdhbaa.Pr
open Go.RowKit Go.Proofs.YtmlahfidnfdhbaaW.PrintWords Go.Proofs.YtmlahfidnfdhbaaW.PrintLast Go.Proofs.YtmlahfidnfdhbaaW.PrintMore
set_option maxRecDepth 100000

set_option maxHeartbeats 1000000 in
theorem LateDays_big (A0 : Option Addr) (c0 : Nat) (l : List S58) (side day : Int) (w : World) (hr0 : Kd.C k58 w A0 l.length l) (hc0 : l.length ≤ c0) (h : 15 < l.length) : Calls Try.prog 5 #[.slice A0 l.length c0, .int .i64 side, .int .i64 day] w (retTrue w) := by
  go_enter Try.func5, Try.ntmps5
  go_wp2_with (first | (go_at_call 8; have m := great_b A0 c0 l true w hr0 hc0 (decide_eq_true (by omega)); (with_reducible refine m.mono ?_); clear m; rintro e w1 ⟨rfl, hb⟩; have HB1 := Lib.hid hb; clear hb) | (go_at_call 9; refine (worksTrue _).mono ?_; rintro e w2 ⟨rfl, hb2⟩))
  go_ret
  exact ⟨rfl, HB1.out.trans (hb2.mono HB1.out.size)⟩

set_option maxHeartbeats 4000000 in
theorem LateDays_small (A0 : Option Addr) (c0 : Nat) (l : List S58) (side day : Int) (w : World) (hr0 : Kd.C k58 w A0 l.length l) (hc0 : l.length ≤ c0) (hl : l.length ≤ 15) : Calls Try.prog 5 #[.slice A0 l.length c0, .int .i64 side, .int .i64 day] w (retTrue w) := by
  have HB0 : Hid (Below w.heap.size w w) := Below.refl _ _
  obtain ⟨E, hE⟩ : ∃ E, E = boundVal l side day := ⟨_, rfl⟩
  obtain ⟨T, hT⟩ : ∃ T, T = tightR l side := ⟨_, rfl⟩
  have evE : late_Bound.f l side day = some E := by rw [hE]; rfl
  have evE' := refBound_ev l side day
  have evS : late_Shortest.f l side = some (T.2.1, T.2.2) := by rw [hT]; rfl
  have evS' := refShortest_ev l side
  have evD : late_Day.f l side = some (T.1, T.2.2) := by rw [hT]; rfl
  have evD' := refDay_ev l side
  rw [← hE] at evE'
  rw [← hT] at evS' evD'
  clear hE hT
  obtain ⟨E1, E2⟩ := E
  obtain ⟨T1, T2, T3⟩ := T
  obtain ⟨ke', he'⟩ := evE'.rounds
  obtain ⟨ks', hs'⟩ := evS'.rounds
  obtain ⟨kd', hd'⟩ := evD'.rounds
  obtain ⟨kL, hiL⟩ := (same_ev l (by omega)).rounds
  have hgr : decide ((l.length : Int) > 15) = false := decide_eq_false (by omega)
  have HGR := Lib.hid hgr; clear hgr
  have HE := Lib.hid evE; have HE' := Lib.hid he'; have HS := Lib.hid evS; have HS' := Lib.hid hs'; have HD := Lib.hid evD; have HD' := Lib.hid hd'; have IL := Lib.hid hiL
  clear evE evE' evS evS' evD evD' he' hs' hd' hiL
  go_enter Try.func5, Try.ntmps5
  go_wp2_with (first
    | (go_at_call 8; have m := great_b A0 c0 l false w hr0 hc0 HGR.out; (with_reducible refine m.mono ?_); clear m; rintro e w1 ⟨rfl, hb⟩; have HB1 : Hid (Below w.heap.size w w1) := HB0.out.trans (hb.mono HB0.out.size); clear hb)
    | ((with_reducible refine gate_builtin (b := .append) (xs := #[.const (.slice none 0 0), .tmp 23]) rfl ?_); at_builtin; refine Kd.R_append_rows k58 (Rr := k58.K w1) (w0 := w1) w1.heap.size rfl _ _ 22 58 (.agg #[.int .i64 0, .int .i64 0, .int .i64 0]) 24 rfl Try.underlying22 info58 rfl (by decide) (by omega) (.slice none 0 0) [] l A0 l.length c0 (fun _ => True) (fun _ => False) rfl rfl (Kd.R_nil _ _ _ _ _) (Kd.C_below hr0 HB1.out) (fun _ _ h => k58_KM h) (fun _ h => h.elim) (fun _ _ => trivial) (Below.refl _ _) (Nat.le_refl _) (by simp; omega) ?_; intro vl w2 ho hb hg hat; rw [List.nil_append] at ho; obtain ⟨Al, cl, rfl, hl, hCl⟩ := Kd.R_reads ho; have Fl_2 := Lib.hid hCl; have Gl := Lib.hid hl; clear hCl hl ho hg hat; have HB2 : Hid (Below w.heap.size w w2) := HB1.out.trans (hb.mono HB1.out.size); clear hb))
  go_wp2_with (first
    | (go_at_call 23; have m := late_Bound.calls A0 c0 l side day E1 E2 w2 (Kd.C_below hr0 HB2.out) hc0 HE.out; (with_reducible refine m.mono ?_); clear m; rintro e w3 ⟨rfl, hb⟩; have HB3 : Hid (Below w.heap.size w w3) := HB2.out.trans (hb.mono HB2.out.size); have Fl_3 := Lib.hid (Kd.C_below Fl_2.out hb); clear hb))
  go_wp2_with (first
    | (go_at_call 24; have m := fippleref05_Bound.calls ke' Al cl l side day E1 E2 w3 Fl_3.out Gl.out HE'.out; (with_reducible refine m.mono ?_); clear m; rintro e w4 ⟨rfl, hb⟩; have HB4 : Hid (Below w.heap.size w w4) := HB3.out.trans (hb.mono HB3.out.size); have Fl_4 := Lib.hid (Kd.C_below Fl_3.out hb); clear hb))
  go_wp2_with (first
    | (go_at_call 25; have m := late_Shortest.calls A0 c0 l side T2 T3 w4 (Kd.C_below hr0 HB4.out) hc0 HS.out; (with_reducible refine m.mono ?_); clear m; rintro e w5 ⟨rfl, hb⟩; have HB5 : Hid (Below w.heap.size w w5) := HB4.out.trans (hb.mono HB4.out.size); have Fl_5 := Lib.hid (Kd.C_below Fl_4.out hb); clear hb))
  go_wp2_with (first
    | (go_at_call 26; have m := fippleref05_Shortest.calls ks' Al cl l side T2 T3 w5 Fl_5.out Gl.out HS'.out; (with_reducible refine m.mono ?_); clear m; rintro e w6 ⟨rfl, hb⟩; have HB6 : Hid (Below w.heap.size w w6) := HB5.out.trans (hb.mono HB5.out.size); have Fl_6 := Lib.hid (Kd.C_below Fl_5.out hb); clear hb))
  go_wp2_with (first
    | (go_at_call 27; have m := late_Day.calls A0 c0 l side T1 T3 w6 (Kd.C_below hr0 HB6.out) hc0 HD.out; (with_reducible refine m.mono ?_); clear m; rintro e w7 ⟨rfl, hb⟩; have HB7 : Hid (Below w.heap.size w w7) := HB6.out.trans (hb.mono HB6.out.size); have Fl_7 := Lib.hid (Kd.C_below Fl_6.out hb); clear hb))
  go_wp2_with (first
    | (go_at_call 28; have m := fippleref05_Day.calls kd' Al cl l side T1 T3 w7 Fl_7.out Gl.out HD'.out; (with_reducible refine m.mono ?_); clear m; rintro e w8 ⟨rfl, hb⟩; have HB8 : Hid (Below w.heap.size w w8) := HB7.out.trans (hb.mono HB7.out.size); have Fl_8 := Lib.hid (Kd.C_below Fl_7.out hb); clear hb))
  go_wp2_with (first
    | (go_at_call 17; have m := sameK kL l A0 c0 Al cl w8 (Kd.C_below hr0 HB8.out) hc0 Fl_8.out Gl.out IL.out; (with_reducible refine m.mono ?_); clear m; rintro e w9 ⟨rfl, hb⟩; have HB9 : Hid (Below w.heap.size w w9) := HB8.out.trans (hb.mono HB8.out.size); have Fl_9 := Lib.hid (Kd.C_below Fl_8.out hb); clear hb))
  go_wp2_with (first
    | (go_at_call 9; have m := worksTrue w9; (with_reducible refine m.mono ?_); clear m; rintro e w10 ⟨rfl, hb⟩; have HB10 : Hid (Below w.heap.size w w10) := HB9.out.trans (hb.mono HB9.out.size); have Fl_10 := Lib.hid (Kd.C_below Fl_9.out hb); clear hb))
  go_ret
  exact ⟨rfl, HB10.out⟩
end Go.Proofs.Ytmlahfidnfdhbaa.Pr
