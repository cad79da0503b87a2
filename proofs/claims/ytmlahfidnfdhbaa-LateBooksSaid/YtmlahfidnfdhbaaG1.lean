import Derived.Test.YtmlahfidnfdhbaaRB
import Derived.Test.YtmlahfidnfdhbaaRC
import Derived.Test.YtmlahfidnfdhbaaRK
import Derived.Test.YtmlahfidnfdhbaaM5
set_option linter.unusedVariables false
set_option linter.unusedSimpArgs false
namespace Go.Proofs.Ytmlahfidnfdhbaa.Pr
open Go.RowKit Go.Proofs.YtmlahfidnfdhbaaW.PrintWords Go.Proofs.YtmlahfidnfdhbaaW.PrintLast Go.Proofs.YtmlahfidnfdhbaaW.PrintMore
set_option maxRecDepth 100000

set_option maxHeartbeats 1000000 in
theorem LateBooks_big (A0 A1 A2 : Option Addr) (c0 c1 c2 : Nat) (l : List S58) (s ws : List Int) (w : World) (hr0 : Kd.C k58 w A0 l.length l) (hc0 : l.length ≤ c0) (hr1 : Kd.C (Kd.int .i64) w A1 s.length s) (hc1 : s.length ≤ c1) (hr2 : Kd.C (Kd.int .i64) w A2 ws.length ws) (hc2 : ws.length ≤ c2) (h : 15 < l.length ∨ 15 < s.length ∨ 15 < ws.length) : Calls Try.prog 3 #[.slice A0 l.length c0, .slice A1 s.length c1, .slice A2 ws.length c2] w (retTrue w) := by
  have hm1 := hr1.2.1
  have hm2 := hr2.2.1
  have HB0 : Hid (Below w.heap.size w w) := Below.refl _ _
  by_cases hl : 15 < l.length
  · go_enter Try.func3, Try.ntmps3
    go_wp2_with (first | (go_at_call 8; have m := great_b A0 c0 l true w hr0 hc0 (decide_eq_true (by omega)); (with_reducible refine m.mono ?_); clear m; rintro e w1 ⟨rfl, hb⟩; have HB1 := Lib.hid hb; clear hb) | (go_at_call 9; refine (worksTrue _).mono ?_; rintro e w2 ⟨rfl, hb2⟩))
    go_ret
    exact ⟨rfl, HB1.out.trans (hb2.mono HB1.out.size)⟩
  · by_cases hs : 15 < s.length
    · have hd1 : decide ((s.length : Int) > 15) = true := decide_eq_true (by omega)
      have hd1' : decide ((15 : Int) < (s.length : Int)) = true := decide_eq_true (by omega)
      go_enter Try.func3, Try.ntmps3
      go_wp2_with (first | (go_at_call 8; have m := great_b A0 c0 l false w hr0 hc0 (decide_eq_false (by omega)); (with_reducible refine m.mono ?_); clear m; rintro e w1 ⟨rfl, hb⟩; have HB1 := Lib.hid hb; clear hb) | (go_at_call 9; refine (worksTrue _).mono ?_; rintro e w2 ⟨rfl, hb2⟩))
      go_ret
      exact ⟨rfl, HB1.out.trans (hb2.mono HB1.out.size)⟩
    · have hw : 15 < ws.length := by omega
      have hd1 : decide ((s.length : Int) > 15) = false := decide_eq_false (by omega)
      have hd1' : decide ((15 : Int) < (s.length : Int)) = false := decide_eq_false (by omega)
      have hd2 : decide ((ws.length : Int) > 15) = true := decide_eq_true (by omega)
      have hd2' : decide ((15 : Int) < (ws.length : Int)) = true := decide_eq_true (by omega)
      go_enter Try.func3, Try.ntmps3
      go_wp2_with (first | (go_at_call 8; have m := great_b A0 c0 l false w hr0 hc0 (decide_eq_false (by omega)); (with_reducible refine m.mono ?_); clear m; rintro e w1 ⟨rfl, hb⟩; have HB1 := Lib.hid hb; clear hb) | (go_at_call 9; refine (worksTrue _).mono ?_; rintro e w2 ⟨rfl, hb2⟩))
      go_ret
      exact ⟨rfl, HB1.out.trans (hb2.mono HB1.out.size)⟩

set_option maxHeartbeats 4000000 in
theorem LateBooks_small (A0 A1 A2 : Option Addr) (c0 c1 c2 : Nat) (l : List S58) (s ws : List Int) (w : World) (hr0 : Kd.C k58 w A0 l.length l) (hc0 : l.length ≤ c0) (hr1 : Kd.C (Kd.int .i64) w A1 s.length s) (hc1 : s.length ≤ c1) (hr2 : Kd.C (Kd.int .i64) w A2 ws.length ws) (hc2 : ws.length ≤ c2) (hl : l.length ≤ 15) (hs : s.length ≤ 15) (hw : ws.length ≤ 15) : Calls Try.prog 3 #[.slice A0 l.length c0, .slice A1 s.length c1, .slice A2 ws.length c2] w (retTrue w) := by
  have HB0 : Hid (Below w.heap.size w w) := Below.refl _ _
  have hd1 : decide ((s.length : Int) > 15) = false := decide_eq_false (by omega)
  have hd1' : decide ((15 : Int) < (s.length : Int)) = false := decide_eq_false (by omega)
  have hd2 : decide ((ws.length : Int) > 15) = false := decide_eq_false (by omega)
  have hd2' : decide ((15 : Int) < (ws.length : Int)) = false := decide_eq_false (by omega)
  obtain ⟨E, hE⟩ : ∃ E, E = (if endsErr l s ws = 0 then (endsL s ws, 0) else ([], endsErr l s ws)) := ⟨_, rfl⟩
  obtain ⟨D, hD⟩ : ∃ D, D = (if endsErr l s ws = 0 then (if l.length = 0 then (0, 5) else (maxTo (delays l (endsL s ws) l.length) (l.length - 1), 0)) else (0, endsErr l s ws)) := ⟨_, rfl⟩
  have evE := Ends_ev l s ws
  have evE' := refEnds_ev l s ws hs
  have evD' := refDelay_ev l s ws hs
  have evD : late_Delay.f l s ws = some D := by rw [hD]; rfl
  rw [← hE] at evE evE'
  rw [← hD] at evD'
  have hel : E.1.length ≤ 1000 := by
    rw [hE]; split
    · show (endsL s ws).length ≤ 1000; rw [endsL_len]; omega
    · simp
  clear hE hD
  obtain ⟨E1, E2⟩ := E
  obtain ⟨D1, D2⟩ := D
  obtain ⟨ke, he⟩ := evE.rounds
  obtain ⟨ke', he'⟩ := evE'.rounds
  obtain ⟨kd', hd'⟩ := evD'.rounds
  obtain ⟨ko, ho⟩ := (refCO_ev l).rounds
  obtain ⟨kE, hiE⟩ := (longs_ev E1 hel).rounds
  obtain ⟨kS, hiS⟩ := (ints_ev s (by omega)).rounds
  obtain ⟨kW, hiW⟩ := (longs_ev ws (by omega)).rounds
  obtain ⟨kL, hiL⟩ := (same_ev l (by omega)).rounds
  have hgr : decide ((l.length : Int) > 15) = false := decide_eq_false (by omega)
  have HGR := Lib.hid hgr; clear hgr
  have HE := Lib.hid he; have HE' := Lib.hid he'; have HD' := Lib.hid hd'; have HO := Lib.hid ho; have IE := Lib.hid hiE; have IS := Lib.hid hiS; have IW := Lib.hid hiW; have IL := Lib.hid hiL; have HD := Lib.hid evD
  clear evE evE' evD evD' he he' hd' ho hiE hiS hiW hiL
  have hco : late_CheckOrders.f l = some (checkO l) := rfl
  have HCO := Lib.hid hco; clear hco
  generalize checkO l = O at *
  go_enter Try.func3, Try.ntmps3
  go_wp2_with (first
    | (go_at_call 8; have m := great_b A0 c0 l false w hr0 hc0 HGR.out; (with_reducible refine m.mono ?_); clear m; rintro e w1 ⟨rfl, hb⟩; have HB1 : Hid (Below w.heap.size w w1) := HB0.out.trans (hb.mono HB0.out.size); clear hb)
    | ((with_reducible refine gate_builtin (b := .append) (xs := #[.const (.slice none 0 0), .tmp 31]) rfl ?_); at_builtin; refine Kd.R_append_rows k58 (Rr := k58.K w1) (w0 := w1) w1.heap.size rfl _ _ 22 58 (.agg #[.int .i64 0, .int .i64 0, .int .i64 0]) 24 rfl Try.underlying22 info58 rfl (by decide) (by omega) (.slice none 0 0) [] l A0 l.length c0 (fun _ => True) (fun _ => False) rfl rfl (Kd.R_nil _ _ _ _ _) (Kd.C_below hr0 HB1.out) (fun _ _ h => k58_KM h) (fun _ h => h.elim) (fun _ _ => trivial) (Below.refl _ _) (Nat.le_refl _) (by simp; omega) ?_; intro vl w2 ho hb hg hat; rw [List.nil_append] at ho; obtain ⟨Al, cl, rfl, hl, hCl⟩ := Kd.R_reads ho; have Fl_2 := Lib.hid hCl; have Gl := Lib.hid hl; clear hCl hl ho hg hat; have HB2 : Hid (Below w.heap.size w w2) := HB1.out.trans (hb.mono HB1.out.size); clear hb)
    | ((with_reducible refine gate_builtin (b := .append) (xs := #[.const (.slice none 0 0), .tmp 33]) rfl ?_); at_builtin; refine Kd.R_append_rows (Kd.int .i64) (Rr := (Kd.int .i64).K w2) (w0 := w2) w2.heap.size rfl _ _ 23 3 (.int .i64 0) 8 rfl Try.underlying23 info3 rfl (by decide) (by omega) (.slice none 0 0) [] s A1 s.length c1 (fun _ => True) (fun _ => False) rfl rfl (Kd.R_nil _ _ _ _ _) (Kd.C_below hr1 HB2.out) (fun _ _ h => h) (fun _ h => h.elim) (fun _ _ => trivial) (Below.refl _ _) (Nat.le_refl _) (by simp; omega) ?_; intro vs w3 ho hb hg hat; rw [List.nil_append] at ho; obtain ⟨As, cs, rfl, hs, hCs⟩ := Kd.R_reads ho; have Fs_3 := Lib.hid hCs; have Gs := Lib.hid hs; clear hCs hs ho hg hat; have HB3 : Hid (Below w.heap.size w w3) := HB2.out.trans (hb.mono HB2.out.size); have Fl_3 := Lib.hid (Kd.C_below Fl_2.out hb); clear hb)
    | ((with_reducible refine gate_builtin (b := .append) (xs := #[.const (.slice none 0 0), .tmp 35]) rfl ?_); at_builtin; refine Kd.R_append_rows (Kd.int .i64) (Rr := (Kd.int .i64).K w3) (w0 := w3) w3.heap.size rfl _ _ 24 2 (.int .i64 0) 8 rfl Try.underlying24 info2 rfl (by decide) (by omega) (.slice none 0 0) [] ws A2 ws.length c2 (fun _ => True) (fun _ => False) rfl rfl (Kd.R_nil _ _ _ _ _) (Kd.C_below hr2 HB3.out) (fun _ _ h => h) (fun _ h => h.elim) (fun _ _ => trivial) (Below.refl _ _) (Nat.le_refl _) (by simp; omega) ?_; intro vw w4 ho hb hg hat; rw [List.nil_append] at ho; obtain ⟨Aw, cw, rfl, hw, hCw⟩ := Kd.R_reads ho; have Fw_4 := Lib.hid hCw; have Gw := Lib.hid hw; clear hCw hw ho hg hat; have HB4 : Hid (Below w.heap.size w w4) := HB3.out.trans (hb.mono HB3.out.size); have Fl_4 := Lib.hid (Kd.C_below Fl_3.out hb); have Fs_4 := Lib.hid (Kd.C_below Fs_3.out hb); clear hb))
  go_wp2_with (first
    | (go_at_call 10; have m := late_Ends.calls ke A0 c0 l A1 c1 s A2 c2 ws E1 E2 w4 (Kd.C_below hr0 HB4.out) hc0 (Kd.C_below hr1 HB4.out) hc1 (Kd.C_below hr2 HB4.out) hc2 HE.out; (with_reducible refine m.mono ?_); clear m; rintro e w5 ⟨vE, rfl, hR, hb⟩; obtain ⟨AE, cE, rfl, hE, hCE⟩ := Kd.R_reads hR; clear hR; have FE_5 := Lib.hid hCE; have GE := Lib.hid hE; clear hCE hE; have HB5 : Hid (Below w.heap.size w w5) := HB4.out.trans (hb.mono HB4.out.size); have Fl_5 := Lib.hid (Kd.C_below Fl_4.out hb); have Fs_5 := Lib.hid (Kd.C_below Fs_4.out hb); have Fw_5 := Lib.hid (Kd.C_below Fw_4.out hb); clear hb))
  go_wp2_with (first
    | (go_at_call 11; have m := fippleref05_Ends.calls ke' Al cl l As cs s Aw cw ws E1 E2 w5 Fl_5.out Gl.out Fs_5.out Gs.out Fw_5.out Gw.out HE'.out; (with_reducible refine m.mono ?_); clear m; rintro e w6 ⟨vF, rfl, hR, hb⟩; obtain ⟨AF, cF, rfl, hF, hCF⟩ := Kd.R_reads hR; clear hR; have FF_6 := Lib.hid hCF; have GF := Lib.hid hF; clear hCF hF; have HB6 : Hid (Below w.heap.size w w6) := HB5.out.trans (hb.mono HB5.out.size); have Fl_6 := Lib.hid (Kd.C_below Fl_5.out hb); have Fs_6 := Lib.hid (Kd.C_below Fs_5.out hb); have Fw_6 := Lib.hid (Kd.C_below Fw_5.out hb); have FE_6 := Lib.hid (Kd.C_below FE_5.out hb); clear hb))
  go_wp2_with (first
    | (go_at_call 12; have m := late_Delay.calls A0 c0 l A1 c1 s A2 c2 ws D1 D2 w6 (Kd.C_below hr0 HB6.out) hc0 (Kd.C_below hr1 HB6.out) hc1 (Kd.C_below hr2 HB6.out) hc2 HD.out; (with_reducible refine m.mono ?_); clear m; rintro e w7 ⟨rfl, hb⟩; have HB7 : Hid (Below w.heap.size w w7) := HB6.out.trans (hb.mono HB6.out.size); have Fl_7 := Lib.hid (Kd.C_below Fl_6.out hb); have Fs_7 := Lib.hid (Kd.C_below Fs_6.out hb); have Fw_7 := Lib.hid (Kd.C_below Fw_6.out hb); have FE_7 := Lib.hid (Kd.C_below FE_6.out hb); have FF_7 := Lib.hid (Kd.C_below FF_6.out hb); clear hb))
  go_wp2_with (first
    | (go_at_call 13; have m := fippleref05_Delay.calls kd' Al cl l As cs s Aw cw ws D1 D2 w7 Fl_7.out Gl.out Fs_7.out Gs.out Fw_7.out Gw.out HD'.out; (with_reducible refine m.mono ?_); clear m; rintro e w8 ⟨rfl, hb⟩; have HB8 : Hid (Below w.heap.size w w8) := HB7.out.trans (hb.mono HB7.out.size); have Fl_8 := Lib.hid (Kd.C_below Fl_7.out hb); have Fs_8 := Lib.hid (Kd.C_below Fs_7.out hb); have Fw_8 := Lib.hid (Kd.C_below Fw_7.out hb); have FE_8 := Lib.hid (Kd.C_below FE_7.out hb); have FF_8 := Lib.hid (Kd.C_below FF_7.out hb); clear hb))
  go_wp2_with (first
    | (go_at_call 14; have m := late_CheckOrders.calls A0 c0 l O w8 (Kd.C_below hr0 HB8.out) hc0 HCO.out; (with_reducible refine m.mono ?_); clear m; rintro e w9 ⟨rfl, hb⟩; have HB9 : Hid (Below w.heap.size w w9) := HB8.out.trans (hb.mono HB8.out.size); have Fl_9 := Lib.hid (Kd.C_below Fl_8.out hb); have Fs_9 := Lib.hid (Kd.C_below Fs_8.out hb); have Fw_9 := Lib.hid (Kd.C_below Fw_8.out hb); have FE_9 := Lib.hid (Kd.C_below FE_8.out hb); have FF_9 := Lib.hid (Kd.C_below FF_8.out hb); clear hb))
  go_wp2_with (first
    | (go_at_call 15; have m := fippleref05_CheckOrders.calls ko Al cl l O w9 Fl_9.out Gl.out HO.out; (with_reducible refine m.mono ?_); clear m; rintro e w10 ⟨rfl, hb⟩; have HB10 : Hid (Below w.heap.size w w10) := HB9.out.trans (hb.mono HB9.out.size); have Fl_10 := Lib.hid (Kd.C_below Fl_9.out hb); have Fs_10 := Lib.hid (Kd.C_below Fs_9.out hb); have Fw_10 := Lib.hid (Kd.C_below Fw_9.out hb); have FE_10 := Lib.hid (Kd.C_below FE_9.out hb); have FF_10 := Lib.hid (Kd.C_below FF_9.out hb); clear hb))
  go_wp2_with (first
    | (go_at_call 16; have m := longsK kE E1 AE cE AF cF w10 FE_10.out GE.out FF_10.out GF.out IE.out; (with_reducible refine m.mono ?_); clear m; rintro e w11 ⟨rfl, hb⟩; have HB11 : Hid (Below w.heap.size w w11) := HB10.out.trans (hb.mono HB10.out.size); have Fl_11 := Lib.hid (Kd.C_below Fl_10.out hb); have Fs_11 := Lib.hid (Kd.C_below Fs_10.out hb); have Fw_11 := Lib.hid (Kd.C_below Fw_10.out hb); have FE_11 := Lib.hid (Kd.C_below FE_10.out hb); have FF_11 := Lib.hid (Kd.C_below FF_10.out hb); clear hb))
  go_wp2_with (first
    | (go_at_call 17; have m := sameK kL l A0 c0 Al cl w11 (Kd.C_below hr0 HB11.out) hc0 Fl_11.out Gl.out IL.out; (with_reducible refine m.mono ?_); clear m; rintro e w12 ⟨rfl, hb⟩; have HB12 : Hid (Below w.heap.size w w12) := HB11.out.trans (hb.mono HB11.out.size); have Fl_12 := Lib.hid (Kd.C_below Fl_11.out hb); have Fs_12 := Lib.hid (Kd.C_below Fs_11.out hb); have Fw_12 := Lib.hid (Kd.C_below Fw_11.out hb); have FE_12 := Lib.hid (Kd.C_below FE_11.out hb); have FF_12 := Lib.hid (Kd.C_below FF_11.out hb); clear hb))
  go_wp2_with (first
    | (go_at_call 18; have m := intsK kS s A1 c1 As cs w12 (Kd.C_below hr1 HB12.out) hc1 Fs_12.out Gs.out IS.out; (with_reducible refine m.mono ?_); clear m; rintro e w13 ⟨rfl, hb⟩; have HB13 : Hid (Below w.heap.size w w13) := HB12.out.trans (hb.mono HB12.out.size); have Fl_13 := Lib.hid (Kd.C_below Fl_12.out hb); have Fs_13 := Lib.hid (Kd.C_below Fs_12.out hb); have Fw_13 := Lib.hid (Kd.C_below Fw_12.out hb); have FE_13 := Lib.hid (Kd.C_below FE_12.out hb); have FF_13 := Lib.hid (Kd.C_below FF_12.out hb); clear hb))
  go_wp2_with (first
    | (go_at_call 16; have m := longsK kW ws A2 c2 Aw cw w13 (Kd.C_below hr2 HB13.out) hc2 Fw_13.out Gw.out IW.out; (with_reducible refine m.mono ?_); clear m; rintro e w14 ⟨rfl, hb⟩; have HB14 : Hid (Below w.heap.size w w14) := HB13.out.trans (hb.mono HB13.out.size); have Fl_14 := Lib.hid (Kd.C_below Fl_13.out hb); have Fs_14 := Lib.hid (Kd.C_below Fs_13.out hb); have Fw_14 := Lib.hid (Kd.C_below Fw_13.out hb); have FE_14 := Lib.hid (Kd.C_below FE_13.out hb); have FF_14 := Lib.hid (Kd.C_below FF_13.out hb); clear hb))
  go_wp2_with (first
    | (go_at_call 9; have m := worksTrue w14; (with_reducible refine m.mono ?_); clear m; rintro e w15 ⟨rfl, hb⟩; have HB15 : Hid (Below w.heap.size w w15) := HB14.out.trans (hb.mono HB14.out.size); have Fl_15 := Lib.hid (Kd.C_below Fl_14.out hb); have Fs_15 := Lib.hid (Kd.C_below Fs_14.out hb); have Fw_15 := Lib.hid (Kd.C_below Fw_14.out hb); have FE_15 := Lib.hid (Kd.C_below FE_14.out hb); have FF_15 := Lib.hid (Kd.C_below FF_14.out hb); clear hb))
  go_ret
  exact ⟨rfl, HB15.out⟩
end Go.Proofs.Ytmlahfidnfdhbaa.Pr
