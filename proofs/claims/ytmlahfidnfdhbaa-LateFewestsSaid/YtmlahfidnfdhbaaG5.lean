import Derived.Test.YtmlahfidnfdhbaaH9
set_option linter.unusedSimpArgs false
set_option linter.unusedVariables false
namespace Go.Proofs.Ytmlahfidnfdhbaa.Pr
open Go.RowKit Go.Proofs.YtmlahfidnfdhbaaW.PrintWords Go.Proofs.YtmlahfidnfdhbaaW.PrintLast Go.Proofs.YtmlahfidnfdhbaaW.PrintMore
set_option maxRecDepth 100000

set_option maxHeartbeats 1000000 in
theorem LateFewests_big (A0 : Option Addr) (c0 : Nat) (l : List S58) (side order : Int) (w : World) (hr0 : Kd.C k58 w A0 l.length l) (hc0 : l.length ≤ c0) (h : 15 < l.length) : Calls Try.prog 7 #[.slice A0 l.length c0, .int .i64 side, .int .i64 order] w (retTrue w) := by
  go_enter Try.func7, Try.ntmps7
  go_wp2_with (first | (go_at_call 8; have m := great_b A0 c0 l true w hr0 hc0 (decide_eq_true (by omega)); (with_reducible refine m.mono ?_); clear m; rintro e w1 ⟨rfl, hb⟩; have HB1 := Lib.hid hb; clear hb) | (go_at_call 9; refine (worksTrue _).mono ?_; rintro e w2 ⟨rfl, hb2⟩))
  go_ret
  exact ⟨rfl, HB1.out.trans (hb2.mono HB1.out.size)⟩

set_option maxHeartbeats 1000000 in
theorem LateFewests_wide (A0 : Option Addr) (c0 : Nat) (l : List S58) (side order : Int) (w : World) (hr0 : Kd.C k58 w A0 l.length l) (hc0 : l.length ≤ c0) (hl : l.length ≤ 15) (hw : (if (l.length : Int) > 8 then (checkO l == 0) else false) = true) : Calls Try.prog 7 #[.slice A0 l.length c0, .int .i64 side, .int .i64 order] w (retTrue w) := by
  have ev := wide_ev l
  rw [hw] at ev
  obtain ⟨kw, hkw⟩ := ev.rounds
  have HKW := Lib.hid hkw
  clear hw ev hkw
  have HGR := Lib.hid (show decide ((l.length : Int) > 15) = false from decide_eq_false (by omega))
  go_enter Try.func7, Try.ntmps7
  go_wp2_with (first
    | (go_at_call 8; have m := great_b A0 c0 l false w hr0 hc0 HGR.out; (with_reducible refine m.mono ?_); clear m; rintro e w1 ⟨rfl, hb⟩; have HB1 := Lib.hid hb; have HC1 := Lib.hid (Kd.C_below hr0 hb); clear hb)
    | (go_at_call 33; have m := fipplelaw05_wide.calls kw A0 c0 l true w1 HC1.out hc0 HKW.out; (with_reducible refine m.mono ?_); clear m; rintro e w2 ⟨rfl, hb⟩; have HB2 : Hid (Below w.heap.size w w2) := HB1.out.trans (hb.mono HB1.out.size); clear hb)
    | (go_at_call 9; refine (worksTrue _).mono ?_; rintro e w3 ⟨rfl, hb3⟩))
  go_ret
  exact ⟨rfl, HB2.out.trans (hb3.mono HB2.out.size)⟩

set_option maxHeartbeats 4000000 in
theorem LateFewests_small (A0 : Option Addr) (c0 : Nat) (l : List S58) (side order : Int) (w : World) (hr0 : Kd.C k58 w A0 l.length l) (hc0 : l.length ≤ c0) (hl : l.length ≤ 15) (hw : (if (l.length : Int) > 8 then (checkO l == 0) else false) = false) : Calls Try.prog 7 #[.slice A0 l.length c0, .int .i64 side, .int .i64 order] w (retTrue w) := by
  have HB0 : Hid (Below w.heap.size w w) := Below.refl _ _
  have h8 : checkO l = 0 → l.length ≤ 8 := by
    intro h0
    by_cases h : (l.length : Int) > 8
    · rw [if_pos h, h0] at hw
      exact absurd hw (by decide)
    · omega
  have evW := wide_ev l
  rw [hw] at evW
  obtain ⟨kw, hkw⟩ := evW.rounds
  obtain ⟨E, evE, evE'⟩ := refFewest_ev l side h8
  obtain ⟨V, evD, evD'⟩ := refKind_ev l side order h8
  obtain ⟨E1, E2⟩ := E
  obtain ⟨V1, V2⟩ := V
  obtain ⟨ke', he'⟩ := evE'.rounds
  obtain ⟨kd', hd'⟩ := evD'.rounds
  obtain ⟨kL, hiL⟩ := (same_ev l (by omega)).rounds
  have hgr : decide ((l.length : Int) > 15) = false := decide_eq_false (by omega)
  have HGR := Lib.hid hgr; clear hgr
  have HKW := Lib.hid hkw; have HE := Lib.hid evE; have HE' := Lib.hid he'; have HD := Lib.hid evD; have HD' := Lib.hid hd'; have IL := Lib.hid hiL
  clear evW hkw hw h8 evE evE' evD evD' he' hd' hiL
  go_enter Try.func7, Try.ntmps7
  go_wp2_with (first
    | (go_at_call 8; have m := great_b A0 c0 l false w hr0 hc0 HGR.out; (with_reducible refine m.mono ?_); clear m; rintro e w1 ⟨rfl, hb⟩; have HB1 : Hid (Below w.heap.size w w1) := HB0.out.trans (hb.mono HB0.out.size); clear hb)
    | (go_at_call 33; have m := fipplelaw05_wide.calls kw A0 c0 l false w1 (Kd.C_below hr0 HB1.out) hc0 HKW.out; (with_reducible refine m.mono ?_); clear m; rintro e w2 ⟨rfl, hb⟩; have HB2 : Hid (Below w.heap.size w w2) := HB1.out.trans (hb.mono HB1.out.size); clear hb)
    | ((with_reducible refine gate_builtin (b := .append) (xs := #[.const (.slice none 0 0), .tmp 23]) rfl ?_); at_builtin; refine Kd.R_append_rows k58 (Rr := k58.K w2) (w0 := w2) w2.heap.size rfl _ _ 22 58 (.agg #[.int .i64 0, .int .i64 0, .int .i64 0]) 24 rfl Try.underlying22 info58 rfl (by decide) (by omega) (.slice none 0 0) [] l A0 l.length c0 (fun _ => True) (fun _ => False) rfl rfl (Kd.R_nil _ _ _ _ _) (Kd.C_below hr0 HB2.out) (fun _ _ h => k58_KM h) (fun _ h => h.elim) (fun _ _ => trivial) (Below.refl _ _) (Nat.le_refl _) (by simp; omega) ?_; intro vl w3 ho hb hg hat; rw [List.nil_append] at ho; obtain ⟨Al, cl, rfl, hl, hCl⟩ := Kd.R_reads ho; have Fl_3 := Lib.hid hCl; have Gl := Lib.hid hl; clear hCl hl ho hg hat; have HB3 : Hid (Below w.heap.size w w3) := HB2.out.trans (hb.mono HB2.out.size); clear hb))
  go_wp2_with (first
    | (go_at_call 34; have m := late_Fewest.calls A0 c0 l side E1 E2 w3 (Kd.C_below hr0 HB3.out) hc0 HE.out; (with_reducible refine m.mono ?_); clear m; rintro e w4 ⟨rfl, hb⟩; have HB4 : Hid (Below w.heap.size w w4) := HB3.out.trans (hb.mono HB3.out.size); have Fl_4 := Lib.hid (Kd.C_below Fl_3.out hb); clear hb))
  go_wp2_with (first
    | (go_at_call 35; have m := fippleref05_Fewest.calls ke' Al cl l side E1 E2 w4 Fl_4.out Gl.out HE'.out; (with_reducible refine m.mono ?_); clear m; rintro e w5 ⟨rfl, hb⟩; have HB5 : Hid (Below w.heap.size w w5) := HB4.out.trans (hb.mono HB4.out.size); have Fl_5 := Lib.hid (Kd.C_below Fl_4.out hb); clear hb))
  go_wp2_with (first
    | (go_at_call 36; have m := late_Kind.calls A0 c0 l side order V1 V2 w5 (Kd.C_below hr0 HB5.out) hc0 HD.out; (with_reducible refine m.mono ?_); clear m; rintro e w6 ⟨rfl, hb⟩; have HB6 : Hid (Below w.heap.size w w6) := HB5.out.trans (hb.mono HB5.out.size); have Fl_6 := Lib.hid (Kd.C_below Fl_5.out hb); clear hb))
  go_wp2_with (first
    | (go_at_call 37; have m := fippleref05_Kind.calls kd' Al cl l side order V1 V2 w6 Fl_6.out Gl.out HD'.out; (with_reducible refine m.mono ?_); clear m; rintro e w7 ⟨rfl, hb⟩; have HB7 : Hid (Below w.heap.size w w7) := HB6.out.trans (hb.mono HB6.out.size); have Fl_7 := Lib.hid (Kd.C_below Fl_6.out hb); clear hb))
  go_wp2_with (first
    | (go_at_call 17; have m := sameK kL l A0 c0 Al cl w7 (Kd.C_below hr0 HB7.out) hc0 Fl_7.out Gl.out IL.out; (with_reducible refine m.mono ?_); clear m; rintro e w8 ⟨rfl, hb⟩; have HB8 : Hid (Below w.heap.size w w8) := HB7.out.trans (hb.mono HB7.out.size); have Fl_8 := Lib.hid (Kd.C_below Fl_7.out hb); clear hb))
  go_wp2_with (first
    | (go_at_call 9; have m := worksTrue w8; (with_reducible refine m.mono ?_); clear m; rintro e w9 ⟨rfl, hb⟩; have HB9 : Hid (Below w.heap.size w w9) := HB8.out.trans (hb.mono HB8.out.size); have Fl_9 := Lib.hid (Kd.C_below Fl_8.out hb); clear hb))
  go_ret
  exact ⟨rfl, HB9.out⟩
end Go.Proofs.Ytmlahfidnfdhbaa.Pr
