import Derived.Test.YtmlahfidnfdhbaaH6
set_option linter.unusedSimpArgs false
set_option linter.unusedVariables false
namespace Go.Proofs.Ytmlahfidnfdhbaa.Pr
open Go.RowKit Go.Proofs.YtmlahfidnfdhbaaW.PrintWords Go.Proofs.YtmlahfidnfdhbaaW.PrintLast Go.Proofs.YtmlahfidnfdhbaaW.PrintMore
set_option maxRecDepth 100000

set_option maxHeartbeats 1000000 in
theorem LateKepts_big (A0 A1 : Option Addr) (c0 c1 : Nat) (l : List S58) (side : Int) (s : List Int) (w : World) (hr0 : Kd.C k58 w A0 l.length l) (hc0 : l.length ≤ c0) (hr1 : Kd.C (Kd.int .i64) w A1 s.length s) (hc1 : s.length ≤ c1) (h : 15 < l.length ∨ 15 < s.length) : Calls Try.prog 6 #[.slice A0 l.length c0, .int .i64 side, .slice A1 s.length c1] w (retTrue w) := by
  have hm1 := hr1.2.1
  by_cases hl : 15 < l.length
  · go_enter Try.func6, Try.ntmps6
    go_wp2_with (first | (go_at_call 8; have m := great_b A0 c0 l true w hr0 hc0 (decide_eq_true (by omega)); (with_reducible refine m.mono ?_); clear m; rintro e w1 ⟨rfl, hb⟩; have HB1 := Lib.hid hb; clear hb) | (go_at_call 9; refine (worksTrue _).mono ?_; rintro e w2 ⟨rfl, hb2⟩))
    go_ret
    exact ⟨rfl, HB1.out.trans (hb2.mono HB1.out.size)⟩
  · have hs : 15 < s.length := by omega
    have hd1 : decide ((s.length : Int) > 15) = true := decide_eq_true (by omega)
    have hd1' : decide ((15 : Int) < (s.length : Int)) = true := decide_eq_true (by omega)
    go_enter Try.func6, Try.ntmps6
    go_wp2_with (first | (go_at_call 8; have m := great_b A0 c0 l false w hr0 hc0 (decide_eq_false (by omega)); (with_reducible refine m.mono ?_); clear m; rintro e w1 ⟨rfl, hb⟩; have HB1 := Lib.hid hb; clear hb) | (go_at_call 9; refine (worksTrue _).mono ?_; rintro e w2 ⟨rfl, hb2⟩))
    go_ret
    exact ⟨rfl, HB1.out.trans (hb2.mono HB1.out.size)⟩

set_option maxHeartbeats 4000000 in
theorem LateKepts_small (A0 A1 : Option Addr) (c0 c1 : Nat) (l : List S58) (side : Int) (s : List Int) (w : World) (hr0 : Kd.C k58 w A0 l.length l) (hc0 : l.length ≤ c0) (hr1 : Kd.C (Kd.int .i64) w A1 s.length s) (hc1 : s.length ≤ c1) (hl : l.length ≤ 15) (hs : s.length ≤ 15) : Calls Try.prog 6 #[.slice A0 l.length c0, .int .i64 side, .slice A1 s.length c1] w (retTrue w) := by
  have HB0 : Hid (Below w.heap.size w w) := Below.refl _ _
  have hd1 : decide ((s.length : Int) > 15) = false := decide_eq_false (by omega)
  have hd1' : decide ((15 : Int) < (s.length : Int)) = false := decide_eq_false (by omega)
  obtain ⟨E, hE⟩ : ∃ E, E = (if sideErr l side = 0 then (upTo (keptL l (worksOf side l)) l.length, 0) else (([] : List Int), sideErr l side)) := ⟨_, rfl⟩
  have evE : late_Kept.f l side = some E := by rw [hE]; rfl
  have evE' := refKept_ev l side
  rw [← hE] at evE'
  obtain ⟨V, evD, evD'⟩ := refCheckKept_ev l side s hs
  have hel : E.1.length ≤ 1000 := by
    rw [hE]; split
    · show (upTo (keptL l (worksOf side l)) l.length).length ≤ 1000
      have := upTo_len (keptL l (worksOf side l)) l.length
      omega
    · simp
  clear hE
  obtain ⟨E1, E2⟩ := E
  obtain ⟨ke', he'⟩ := evE'.rounds
  obtain ⟨kd', hd'⟩ := evD'.rounds
  obtain ⟨kE, hiE⟩ := (ints_ev E1 hel).rounds
  obtain ⟨kS, hiS⟩ := (ints_ev s (by omega)).rounds
  obtain ⟨kL, hiL⟩ := (same_ev l (by omega)).rounds
  have hgr : decide ((l.length : Int) > 15) = false := decide_eq_false (by omega)
  have HGR := Lib.hid hgr; clear hgr
  have HE := Lib.hid evE; have HE' := Lib.hid he'; have HD := Lib.hid evD; have HD' := Lib.hid hd'; have IE := Lib.hid hiE; have IS := Lib.hid hiS; have IL := Lib.hid hiL
  clear evE evE' evD evD' he' hd' hiE hiS hiL
  go_enter Try.func6, Try.ntmps6
  go_wp2_with (first
    | (go_at_call 8; have m := great_b A0 c0 l false w hr0 hc0 HGR.out; (with_reducible refine m.mono ?_); clear m; rintro e w1 ⟨rfl, hb⟩; have HB1 : Hid (Below w.heap.size w w1) := HB0.out.trans (hb.mono HB0.out.size); clear hb)
    | ((with_reducible refine gate_builtin (b := .append) (xs := #[.const (.slice none 0 0), .tmp 21]) rfl ?_); at_builtin; refine Kd.R_append_rows k58 (Rr := k58.K w1) (w0 := w1) w1.heap.size rfl _ _ 22 58 (.agg #[.int .i64 0, .int .i64 0, .int .i64 0]) 24 rfl Try.underlying22 info58 rfl (by decide) (by omega) (.slice none 0 0) [] l A0 l.length c0 (fun _ => True) (fun _ => False) rfl rfl (Kd.R_nil _ _ _ _ _) (Kd.C_below hr0 HB1.out) (fun _ _ h => k58_KM h) (fun _ h => h.elim) (fun _ _ => trivial) (Below.refl _ _) (Nat.le_refl _) (by simp; omega) ?_; intro vl w2 ho hb hg hat; rw [List.nil_append] at ho; obtain ⟨Al, cl, rfl, hl, hCl⟩ := Kd.R_reads ho; have Fl_2 := Lib.hid hCl; have Gl := Lib.hid hl; clear hCl hl ho hg hat; have HB2 : Hid (Below w.heap.size w w2) := HB1.out.trans (hb.mono HB1.out.size); clear hb)
    | ((with_reducible refine gate_builtin (b := .append) (xs := #[.const (.slice none 0 0), .tmp 23]) rfl ?_); at_builtin; refine Kd.R_append_rows (Kd.int .i64) (Rr := (Kd.int .i64).K w2) (w0 := w2) w2.heap.size rfl _ _ 23 3 (.int .i64 0) 8 rfl Try.underlying23 info3 rfl (by decide) (by omega) (.slice none 0 0) [] s A1 s.length c1 (fun _ => True) (fun _ => False) rfl rfl (Kd.R_nil _ _ _ _ _) (Kd.C_below hr1 HB2.out) (fun _ _ h => h) (fun _ h => h.elim) (fun _ _ => trivial) (Below.refl _ _) (Nat.le_refl _) (by simp; omega) ?_; intro vs w3 ho hb hg hat; rw [List.nil_append] at ho; obtain ⟨As, cs, rfl, hs, hCs⟩ := Kd.R_reads ho; have Fs_3 := Lib.hid hCs; have Gs := Lib.hid hs; clear hCs hs ho hg hat; have HB3 : Hid (Below w.heap.size w w3) := HB2.out.trans (hb.mono HB2.out.size); have Fl_3 := Lib.hid (Kd.C_below Fl_2.out hb); clear hb))
  go_wp2_with (first
    | (go_at_call 29; have m := late_Kept.calls A0 c0 l side E1 E2 w3 (Kd.C_below hr0 HB3.out) hc0 HE.out; (with_reducible refine m.mono ?_); clear m; rintro e w4 ⟨vE, rfl, hR, hb⟩; obtain ⟨AE, cE, rfl, hE, hCE⟩ := Kd.R_reads hR; clear hR; have FE_4 := Lib.hid hCE; have GE := Lib.hid hE; clear hCE hE; have HB4 : Hid (Below w.heap.size w w4) := HB3.out.trans (hb.mono HB3.out.size); have Fl_4 := Lib.hid (Kd.C_below Fl_3.out hb); have Fs_4 := Lib.hid (Kd.C_below Fs_3.out hb); clear hb))
  go_wp2_with (first
    | (go_at_call 30; have m := fippleref05_Kept.calls ke' Al cl l side E1 E2 w4 Fl_4.out Gl.out HE'.out; (with_reducible refine m.mono ?_); clear m; rintro e w5 ⟨vF, rfl, hR, hb⟩; obtain ⟨AF, cF, rfl, hF, hCF⟩ := Kd.R_reads hR; clear hR; have FF_5 := Lib.hid hCF; have GF := Lib.hid hF; clear hCF hF; have HB5 : Hid (Below w.heap.size w w5) := HB4.out.trans (hb.mono HB4.out.size); have Fl_5 := Lib.hid (Kd.C_below Fl_4.out hb); have Fs_5 := Lib.hid (Kd.C_below Fs_4.out hb); have FE_5 := Lib.hid (Kd.C_below FE_4.out hb); clear hb))
  go_wp2_with (first
    | (go_at_call 31; have m := late_CheckKept.calls A0 c0 l side A1 c1 s V w5 (Kd.C_below hr0 HB5.out) hc0 (Kd.C_below hr1 HB5.out) hc1 HD.out; (with_reducible refine m.mono ?_); clear m; rintro e w6 ⟨rfl, hb⟩; have HB6 : Hid (Below w.heap.size w w6) := HB5.out.trans (hb.mono HB5.out.size); have Fl_6 := Lib.hid (Kd.C_below Fl_5.out hb); have Fs_6 := Lib.hid (Kd.C_below Fs_5.out hb); have FE_6 := Lib.hid (Kd.C_below FE_5.out hb); have FF_6 := Lib.hid (Kd.C_below FF_5.out hb); clear hb))
  go_wp2_with (first
    | (go_at_call 32; have m := fippleref05_CheckKept.calls kd' Al cl l side As cs s V w6 Fl_6.out Gl.out Fs_6.out Gs.out HD'.out; (with_reducible refine m.mono ?_); clear m; rintro e w7 ⟨rfl, hb⟩; have HB7 : Hid (Below w.heap.size w w7) := HB6.out.trans (hb.mono HB6.out.size); have Fl_7 := Lib.hid (Kd.C_below Fl_6.out hb); have Fs_7 := Lib.hid (Kd.C_below Fs_6.out hb); have FE_7 := Lib.hid (Kd.C_below FE_6.out hb); have FF_7 := Lib.hid (Kd.C_below FF_6.out hb); clear hb))
  go_wp2_with (first
    | (go_at_call 18; have m := intsK kE E1 AE cE AF cF w7 FE_7.out GE.out FF_7.out GF.out IE.out; (with_reducible refine m.mono ?_); clear m; rintro e w8 ⟨rfl, hb⟩; have HB8 : Hid (Below w.heap.size w w8) := HB7.out.trans (hb.mono HB7.out.size); have Fl_8 := Lib.hid (Kd.C_below Fl_7.out hb); have Fs_8 := Lib.hid (Kd.C_below Fs_7.out hb); have FE_8 := Lib.hid (Kd.C_below FE_7.out hb); have FF_8 := Lib.hid (Kd.C_below FF_7.out hb); clear hb))
  go_wp2_with (first
    | (go_at_call 17; have m := sameK kL l A0 c0 Al cl w8 (Kd.C_below hr0 HB8.out) hc0 Fl_8.out Gl.out IL.out; (with_reducible refine m.mono ?_); clear m; rintro e w9 ⟨rfl, hb⟩; have HB9 : Hid (Below w.heap.size w w9) := HB8.out.trans (hb.mono HB8.out.size); have Fl_9 := Lib.hid (Kd.C_below Fl_8.out hb); have Fs_9 := Lib.hid (Kd.C_below Fs_8.out hb); have FE_9 := Lib.hid (Kd.C_below FE_8.out hb); have FF_9 := Lib.hid (Kd.C_below FF_8.out hb); clear hb))
  go_wp2_with (first
    | (go_at_call 18; have m := intsK kS s A1 c1 As cs w9 (Kd.C_below hr1 HB9.out) hc1 Fs_9.out Gs.out IS.out; (with_reducible refine m.mono ?_); clear m; rintro e w10 ⟨rfl, hb⟩; have HB10 : Hid (Below w.heap.size w w10) := HB9.out.trans (hb.mono HB9.out.size); have Fl_10 := Lib.hid (Kd.C_below Fl_9.out hb); have Fs_10 := Lib.hid (Kd.C_below Fs_9.out hb); have FE_10 := Lib.hid (Kd.C_below FE_9.out hb); have FF_10 := Lib.hid (Kd.C_below FF_9.out hb); clear hb))
  go_wp2_with (first
    | (go_at_call 9; have m := worksTrue w10; (with_reducible refine m.mono ?_); clear m; rintro e w11 ⟨rfl, hb⟩; have HB11 : Hid (Below w.heap.size w w11) := HB10.out.trans (hb.mono HB10.out.size); have Fl_11 := Lib.hid (Kd.C_below Fl_10.out hb); have Fs_11 := Lib.hid (Kd.C_below Fs_10.out hb); have FE_11 := Lib.hid (Kd.C_below FE_10.out hb); have FF_11 := Lib.hid (Kd.C_below FF_10.out hb); clear hb))
  go_ret
  exact ⟨rfl, HB11.out⟩
end Go.Proofs.Ytmlahfidnfdhbaa.Pr
