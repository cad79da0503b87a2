/- Lemmas for the laws of rack: RH, F3, F8, RO. -/
import Derived.Test.YtpbemjdaanlaoaaPr0
import Derived.Test.YtpbemjdaanlaoaaPr1
import Derived.Test.YtpbemjdaanlaoaaN4
import Derived.Test.YtpbemjdaanlaoaaN6
import Derived.Test.YtpbemjdaanlaoaaN2
import Derived.Test.YtpbemjdaanlaoaaN3
import Derived.Test.YtpbemjdaanlaoaaRE
import Derived.Test.YtpbemjdaanlaoaaN0
set_option linter.unusedVariables false
set_option linter.unusedSimpArgs false
/- Printed out of the translation by the kit's print.py: contracts of fippleref08_CanTake. -/
namespace Go.Proofs.Ytpbemjdaanlaoaa.Pr
open Go.RowKit Go.Proofs.YtpbemjdaanlaoaaW.PrintWords Go.Proofs.YtpbemjdaanlaoaaW.PrintLast Go.Proofs.YtpbemjdaanlaoaaW.PrintMore
attribute [local go_sem] max2_int min2_int max_two min_two max_three min_three max_four min_four   -- for this text's walks alone
set_option linter.unusedVariables false
set_option linter.unusedSimpArgs false
/-! ### fippleref08_CanTake: function 55 -/
def fippleref08_CanTake.f (l0 : List (List Int)) (a1 : Int) : Option (Bool) := if (wrap64 (a1 + 1)) = (l0.length : Int) then (some true) else (if 0 ≤ a1 then (if a1 < (l0.length : Int) then (if 0 ≤ (wrap64 (a1 + 1)) then (if (wrap64 (a1 + 1)) < (l0.length : Int) then (some (decide (((rd_L1 l0 a1).length : Int) > ((rd_L1 l0 (wrap64 (a1 + 1))).length : Int)))) else (none)) else (none)) else (none)) else (none))
set_option maxHeartbeats 8000000 in
set_option maxRecDepth 100000 in
theorem fippleref08_CanTake.calls (A0 : Option Addr) (c0 : Nat) (l0 : List (List Int)) (a1 : Int) (r : Bool) (w : World) (hr0 : Kd.C (Kd.slice 3 (Kd.int .i64)) w A0 l0.length l0) (hc0 : l0.length ≤ c0) (h : fippleref08_CanTake.f l0 a1 = some r) :
  Calls Try.prog 55 #[.slice A0 l0.length c0, .int .i64 a1] w fun e w' => e = .returned (.bool r) ∧ Drawn0 w w' := by
 have HR0 := Aside0.mk hr0
 have HC0 := Aside0.mk hc0
 clear hr0 hc0
 have H : (if (wrap64 (a1 + 1)) = (l0.length : Int) then (some true) else (if 0 ≤ a1 then (if a1 < (l0.length : Int) then (if 0 ≤ (wrap64 (a1 + 1)) then (if (wrap64 (a1 + 1)) < (l0.length : Int) then (some (decide (((rd_L1 l0 a1).length : Int) > ((rd_L1 l0 (wrap64 (a1 + 1))).length : Int)))) else (none)) else (none)) else (none)) else (none))) = some r := h
 clear h
 by_cases c3 : (wrap64 (a1 + 1)) = (l0.length : Int)
 ·
  rw [if_pos c3] at H
  have c3b0 : ((wrap64 (a1 + 1)) == (l0.length : Int)) = true := beq_iff_eq.mpr c3
  have c3b1 : ((wrap64 (a1 + 1)) != (l0.length : Int)) = false := bne_eq_false_iff_eq.mpr c3
  clear c3
  obtain rfl := Option.some.inj H
  go_enter Try.func55, Try.ntmps55
  go_wp2
  repeat (go_quiet (fail); try go_wp2)
  go_ret
  exact ⟨by first | rfl | (simp; done) | (simp [*]; done), by repeat (first | exact Drawn0.refl _ | apply Drawn0.step)⟩
 ·
  rw [if_neg c3] at H
  have c3b0 : ((wrap64 (a1 + 1)) == (l0.length : Int)) = false := beq_eq_false_iff_ne.mpr c3
  have c3b1 : ((wrap64 (a1 + 1)) != (l0.length : Int)) = true := bne_iff_ne.mpr c3
  by_cases c4 : 0 ≤ a1
  ·
   rw [if_pos c4] at H
   have c4b0 : decide (0 ≤ a1) = true := decide_eq_true c4
   clear c4
   by_cases c5 : a1 < (l0.length : Int)
   ·
    rw [if_pos c5] at H
    have c5b0 : decide (a1 < (l0.length : Int)) = true := decide_eq_true c5
    clear c5
    obtain ⟨ji6, hji6⟩ : ∃ j_ : Int, (wrap64 (a1 + 1)) = j_ := ⟨_, rfl⟩
    replace H : (if 0 ≤ (ji6) then (if (ji6) < (l0.length : Int) then (some (decide (((rd_L1 l0 a1).length : Int) > ((rd_L1 l0 (ji6)).length : Int)))) else (none)) else (none)) = some r := by first | (rw [hji6] at H; exact H) | (simp only [hji6] at H ⊢; exact H)
    (try rw [hji6] at c3b0)
    (try rw [hji6] at c3b1)
    have hji6w : (IntKind.i64.wrap (a1 + 1)) = ji6 := (i64_w _).trans hji6
    by_cases c7 : 0 ≤ (ji6)
    ·
     rw [if_pos c7] at H
     have c7b0 : decide (0 ≤ (ji6)) = true := decide_eq_true c7
     clear c7
     by_cases c8 : (ji6) < (l0.length : Int)
     ·
      rw [if_pos c8] at H
      have c8b0 : decide ((ji6) < (l0.length : Int)) = true := decide_eq_true c8
      clear c8
      obtain rfl := Option.some.inj H
      have p590 : 0 ≤ (a1 : Int) := of_decide_eq_true (by first | (with_reducible assumption) | assumption)
      have q590 : a1 < (l0.length : Int) := of_decide_eq_true (by first | (with_reducible assumption) | assumption)
      obtain ⟨ad590, A590_0, c590_0, e590, hx590_0, hl590_0, hi590_0⟩ := at_L1 HR0.out a1 p590 q590
      cases e590
      have HR590_0 := Aside0.mk hi590_0
      have HC590_0 := Aside0.mk hl590_0
      clear hi590_0 hl590_0
      replace p590 := eq_true p590
      replace q590 := eq_true q590
      have p591 : 0 ≤ ((ji6) : Int) := of_decide_eq_true (by first | (with_reducible assumption) | assumption)
      have q591 : (ji6) < (l0.length : Int) := of_decide_eq_true (by first | (with_reducible assumption) | assumption)
      obtain ⟨ad591, A591_0, c591_0, e591, hx591_0, hl591_0, hi591_0⟩ := at_L1 HR0.out (ji6) p591 q591
      obtain rfl : ad590 = ad591 := (by injection e591)
      have HR591_0 := Aside0.mk hi591_0
      have HC591_0 := Aside0.mk hl591_0
      clear hi591_0 hl591_0
      replace p591 := eq_true p591
      replace q591 := eq_true q591
      go_enter Try.func55, Try.ntmps55
      go_wp2
      repeat (go_quiet (fail); try go_wp2)
      go_ret
      exact ⟨by first | rfl | (simp; done) | (simp only [← hji6] <;> (first | rfl | simp)) | (simp [*]; done), by repeat (first | exact Drawn0.refl _ | apply Drawn0.step)⟩
     ·
      rw [if_neg c8] at H
      exact absurd H (by simp)
    ·
     rw [if_neg c7] at H
     exact absurd H (by simp)
   ·
    rw [if_neg c5] at H
    exact absurd H (by simp)
  ·
   rw [if_neg c4] at H
   exact absurd H (by simp)

-- NOT PRINTED: function 56 (fippleref08_TakeOf)

-- NOT PRINTED: function 18 (fippleref08_Take)

-- NOT PRINTED: function 57 (fippleref08_BuildOf)

-- NOT PRINTED: function 20 (fippleref08_Build)

end Go.Proofs.Ytpbemjdaanlaoaa.Pr
set_option linter.unusedVariables false
set_option linter.unusedSimpArgs false
namespace Go.Proofs.Ytpbemjdaanlaoaa.Pr
open Go.RowKit Go.Proofs.YtpbemjdaanlaoaaW.PrintWords Go.Proofs.YtpbemjdaanlaoaaW.PrintLast Go.Proofs.YtpbemjdaanlaoaaW.PrintMore
open Go.Maps
set_option maxRecDepth 100000

set_option maxHeartbeats 4000000 in
theorem buildOf57 (A0 : Option Addr) (c0 : Nat) (l0 : List Int) (w : World) (hr0 : Kd.C (Kd.int .i64) w A0 l0.length l0) (hl12 : l0.length ≤ 12) (hwf : ∀ x ∈ l0, wfi x) :
    Calls Try.prog 57 #[.slice A0 l0.length c0] w fun e w' => ∃ v0_ v1_ : Value, e = .returned (.tuple #[v0_, v1_]) ∧ (∃ Q : Nat → Prop, Kd.S (Kd.slice 3 (Kd.int .i64)) 32 w' w.heap.size Q v0_ (bS l0 l0.length).1 ∧ Kd.S (Kd.slice 3 (Kd.int .i64)) 32 w' w.heap.size (fun q => ¬ Q q) v1_ (bS l0 l0.length).2) ∧ Below w.heap.size w w' := by
  have HR0 := Lib.hid hr0; have HWF := Lib.hid hwf
  clear hr0 hwf
  go_enter Try.func57, Try.ntmps57
  go_wp2
  go_loopw [4, 5, 6] (fun p o i wr => ∃ (k N1 N2 : Nat), k ≤ l0.length ∧ i = .int .i64 k ∧ Hid (Kd.S (Kd.slice 3 (Kd.int .i64)) 32 wr w.heap.size (fun q => N1 ≤ q ∧ q < N2) p (bS l0 k).1) ∧ Hid (Kd.S (Kd.slice 3 (Kd.int .i64)) 32 wr w.heap.size (fun q => ¬ (N1 ≤ q ∧ q < N2)) o (bS l0 k).2) ∧ Hid (N2 ≤ wr.heap.size) ∧ Hid (Below w.heap.size w wr)) (fun _ _ i _ => l0.length - (intOf i).toNat)
  case atStart => exact ⟨0, 0, 0, Nat.zero_le _, rfl, Kd.S_nil _ _ _ _ _, Kd.S_nil _ _ _ _ _, Nat.zero_le _, Below.refl _ _⟩
  case round =>
    obtain ⟨k, N1, N2, hk, rfl, HP, HO, HN2, HB⟩ := hrel
    obtain ⟨i1, i2, i3, i4⟩ := bS_inv HWF.out k
    by_cases hlt : k < l0.length
    · have hbs : bS l0 (k + 1) = ((putL (bS l0 k).1 (rd l0 (k : Int))).1, addO (bS l0 k).2 (putL (bS l0 k).1 (rd l0 (k : Int))).2.1.toNat ((k : Int) + 1)) := rfl
      generalize bS l0 k = p at *
      obtain ⟨rows, ord⟩ := p
      simp only at i1 i2 i3 i4 hbs HP HO
      obtain ⟨ad, rfl, hcell⟩ := Kd.at_int (Kd.C_below HR0.out HB.out) (k : Int) (by omega) (by omega)
      rw [Int.toNat_natCast] at hcell
      have hx := rd_wfi HWF.out k
      obtain ⟨x, hxe⟩ : ∃ x, x = rd l0 (k : Int) := ⟨_, rfl⟩
      rw [← hxe] at hcell hx hbs
      clear hxe
      obtain ⟨j, hj, h1, h2, h3⟩ := putL_size i1 hx
      obtain ⟨Ap, cp, rfl⟩ := Kd.S_slice HP.out
      have hput := fippleref08_PutOf.calls Ap cp rows x (putL rows x).1 (putL rows x).2.1 wr (Kd.S_reads' HP.out).2.2 (Kd.S_reads' HP.out).2.1 (by unfold fippleref08_PutOf.f; rw [if_pos ⟨by omega, lenOk_iff.2 (fun r hr => Nat.le_trans (i1 r hr).1 (by omega))⟩])
      rw [h1] at hput hbs
      rw [Int.toNat_natCast] at hbs
      generalize (putL rows x).1 = rows' at *
      have HPUT := Lib.hid hput; have HBS := Lib.hid hbs; have HI2 := Lib.hid i2
      have HBW0 := Lib.hid HB.out.size
      have hjo : j ≤ ord.length := by omega
      have hol : ord.length ≤ 1000 := by omega
      have hkk : k ≤ 12 := by omega
      obtain ⟨Ao, co, rfl⟩ := Kd.S_slice HO.out
      clear hput hbs h1 h2 h3 i1 i2 i3 hx
      by_cases hjn : j = ord.length
      · have hjb : ((j : Int) == ((ord.length : Nat) : Int)) = true := beq_iff_eq.2 (by omega)
        have HJ := Lib.hid hjn
        clear hjn
        have HADD := Lib.hid (show addO ord j ((k : Int) + 1) = (ord ++ [[]]).set j (rd_L1 (ord ++ [[]]) (j : Int) ++ [(k : Int) + 1]) by unfold addO; rw [if_pos HJ.out])
        have hbl0 : (ord.length + 1) * 24 ≤ 140737488355328 := by omega
        have hjl : j < (ord ++ [[]]).length := by rw [List.length_append]; have := HJ.out; simp; omega
        have HJL := Lib.hid hjl
        have HRL := Lib.hid (show (rd_L1 (ord ++ [[]]) (j : Int)).length ≤ 1000 by rw [rdL_get _ j hjl]; simp only [HJ.out]; simp)
        clear hjl
        go_wp2_with (first
          | ((with_reducible refine gate_builtin (b := .append) (xs := #[.tmp 29, .tmp 30]) rfl ?_); at_builtin; refine Kd.S_append (Kd.slice 3 (Kd.int .i64)) (w0 := w1) w.heap.size rfl (.tmp 29) (.tmp 30) 22 32 (.slice none 0 0) 24 rfl Try.underlying22 info32 rfl (by decide) (by omega) (.slice Ao ord.length co) ord [] [.slice none 0 0] (fun q => ¬ (wr.heap.size ≤ q ∧ q < w1.heap.size)) (fun _ => False) rfl rfl (Kd.M_row (Kd.R_nil _ _ _ _ _)) (fun _ h => h.elim) (fun q hq e => by omega) (Kd.S_mono HOR1.out (fun q hq => ⟨hq, id⟩)) (Below.refl _ _) HBW.out hbl0 ?_; intro v2 W2 hS2 hb2 hg2 hat2; obtain ⟨go, cap, rfl, _⟩ := Kd.S_form hS2 (by simp); have HK2 := Lib.hid (Kd.S_grown HK1.out hg2 (fun q hq e => Kd.S_R HOR1.out |>.1 q e.symm hq)); have HB2 := Lib.hid (HB1.out.trans hb2); have HWS := Lib.hid hg2.size; have HBW2 := HBW; have HBW := Lib.hid HB2.out.size; have HOR2 := Lib.hid hS2; clear hS2 hb2 hg2 hat2; obtain ⟨vk, q1, oki, hRk, hoki, hHk⟩ := S_elem HOR2.out j HJL.out; obtain ⟨row, hrow⟩ : ∃ row, row = rd_L1 (ord ++ [[]]) (j : Int) := ⟨_, rfl⟩; rw [← hrow] at hRk; have HROW := Lib.hid hrow; have hbl : (row.length + 1) * 8 ≤ 140737488355328 := (by rw [hrow]; have := HRL.out; omega); obtain ⟨Ak, ck, rfl⟩ := Kd.R_slice hRk; have HRK := Lib.hid hRk; have HOKI := Lib.hid hoki; have HHK := Lib.hid hHk; clear hRk hoki hHk hrow; rw [show (ord ++ [([] : List Int)]).length = ord.length + 1 by simp] at HOR2 HHK; have hjl1 : j < ord.length + 1 := (by have := HJ.out; omega))
          | ((with_reducible refine gate_builtin (b := .append) (xs := #[.tmp 37, .tmp 40]) rfl ?_); at_builtin; refine Kd.R_append (Kd.int .i64) (w0 := W2) w.heap.size rfl (.tmp 37) (.tmp 40) 32 3 (.int .i64 0) 8 rfl Try.underlying32 info3 rfl (by decide) (by omega) (.slice Ak row.length ck) row ((k : Int) + 1) [.int .i64 ((k : Int) + 1)] (fun q => oki q ∨ (¬ (wr.heap.size ≤ q ∧ q < w1.heap.size)) ∧ W2.heap.size ≤ q) (fun _ => False) rfl rfl rfl (fun _ h => h.elim) (fun q hq => .inr ⟨fun e => by have := HWS.out; omega, hq⟩) (Kd.R_mono HRK.out (fun q hq => .inl hq)) (Below.refl _ _) (by have := HBW.out; omega) hbl ?_; intro v3 w3 hr3 hb3 hg3 hat3; obtain ⟨A9, c9, rfl⟩ := Kd.R_slice hr3; obtain ⟨⟨u3, y1⟩, y2, y3, y4, hS3⟩ := S_elem_back HOR2.out HJL.out HRK.out HOKI.out HHK.out hr3 hg3; have hK3 : Kd.S (Kd.slice 3 (Kd.int .i64)) 32 (w3.setCell ⟨go, j, none⟩ (.slice A9 (row ++ [(k : Int) + 1]).length c9)) w.heap.size (fun q => wr.heap.size ≤ q ∧ q < w1.heap.size) (.slice A1v rows'.length c1v) rows' := (Kd.S_far (p := ⟨go, j, none⟩) (Kd.S_grown HK2.out hg3 (fun q hq e => (HOKI.out q (HRK.out.1 q e.symm)).1 hq)) (fun q hq e => y4 (show wr.heap.size ≤ go ∧ go < w1.heap.size from (show q = go from e) ▸ hq)) _); have hB3 := (HB2.out.trans (hb3.mono (Nat.le_refl _))).setCell (p := ⟨go, j, none⟩) y3 (.slice A9 (row ++ [(k : Int) + 1]).length c9); have hZ3 : w1.heap.size ≤ (w3.setCell ⟨go, j, none⟩ (.slice A9 (row ++ [(k : Int) + 1]).length c9)).heap.size := (by have h1 := hg3.size; have h2 := HWS.out; simp only [World.setCell, Array.size_modify]; omega); rw [show (row ++ [(k : Int) + 1]).length = row.length + 1 by simp] at hK3 hB3 hS3 hZ3; have HK3 := Lib.hid hK3; have HB3 := Lib.hid hB3; have HOR3 := Lib.hid hS3; have HZ3 := Lib.hid hZ3; clear hK3 hB3 hS3 hZ3 hr3 hb3 hg3 hat3 y3 y4)
          | (go_at_call 53; refine HPUT.out.mono ?_; rintro e w1 ⟨v1, rfl, hS1, hb1⟩; have HK1 : Hid (Kd.S (Kd.slice 3 (Kd.int .i64)) 32 w1 w.heap.size (fun q => wr.heap.size ≤ q ∧ q < w1.heap.size) v1 rows') := Lib.hid (Kd.S_lower (Kd.S_mono (Kd.S_bound hS1) (fun q hq => ⟨hq.2.1, hq.2.2.1⟩)) HBW0.out); have HOR1 : Hid (Kd.S (Kd.slice 3 (Kd.int .i64)) 32 w1 w.heap.size (fun q => ¬ (wr.heap.size ≤ q ∧ q < w1.heap.size)) (.slice Ao ord.length co) ord) := Lib.hid (Kd.S_mono (Kd.S_below (Kd.S_bound HO.out) hb1) (fun q hq e => by have := hq.2.2.1; omega)); have HB1 := Lib.hid (HB.out.trans (hb1.mono HBW0.out)); have HBW := Lib.hid HB1.out.size; obtain ⟨A1v, c1v, rfl⟩ := Kd.S_slice hS1; have HSZ1 := Lib.hid hb1.size; skip; clear hS1 hb1))
        all_goals
          have hfin : (bS l0 (k + 1)).1 = rows' ∧ (bS l0 (k + 1)).2 = (ord ++ [[]]).set j (row ++ [(k : Int) + 1]) := by rw [HBS.out, HADD.out, ← HROW.out]; exact ⟨rfl, rfl⟩
          refine ⟨⟨k + 1, wr.heap.size, w1.heap.size, by omega, by go_num, ?_, ?_, HZ3, HB3⟩, by simp [intOf]; omega⟩
          · rw [hfin.1]; exact HK3
          · rw [hfin.2]; exact HOR3
      · have hjb : ((j : Int) == ((ord.length : Nat) : Int)) = false := beq_eq_false_iff_ne.2 (by omega)
        have hjl : j < ord.length := by omega
        have HADD := Lib.hid (show addO ord j ((k : Int) + 1) = ord.set j (rd_L1 ord (j : Int) ++ [(k : Int) + 1]) by unfold addO; rw [if_neg hjn])
        have HJL := Lib.hid hjl
        have HRL := Lib.hid (lenL_at HI2.out (j : Int))
        obtain ⟨go, cap, hv, _⟩ := Kd.S_form HO.out (by omega)
        injection hv with hv1 _ hv3
        subst hv1 hv3
        clear hjn
        go_wp2_with (first
          | ((with_reducible refine gate_builtin (b := .append) (xs := #[.tmp 37, .tmp 40]) rfl ?_); at_builtin; refine Kd.R_append (Kd.int .i64) (w0 := w1) w.heap.size rfl (.tmp 37) (.tmp 40) 32 3 (.int .i64 0) 8 rfl Try.underlying32 info3 rfl (by decide) (by omega) (.slice Ak row.length ck) row ((k : Int) + 1) [.int .i64 ((k : Int) + 1)] (fun q => oki q ∨ (¬ (wr.heap.size ≤ q ∧ q < w1.heap.size)) ∧ w1.heap.size ≤ q) (fun _ => False) rfl rfl rfl (fun _ h => h.elim) (fun q hq => .inr ⟨fun e => by have := HWS.out; omega, hq⟩) (Kd.R_mono HRK.out (fun q hq => .inl hq)) (Below.refl _ _) (by have := HBW.out; omega) hbl ?_; intro v3 w3 hr3 hb3 hg3 hat3; obtain ⟨A9, c9, rfl⟩ := Kd.R_slice hr3; obtain ⟨⟨u3, y1⟩, y2, y3, y4, hS3⟩ := S_elem_back HOR2.out HJL.out HRK.out HOKI.out HHK.out hr3 hg3; have hK3 : Kd.S (Kd.slice 3 (Kd.int .i64)) 32 (w3.setCell ⟨go, j, none⟩ (.slice A9 (row ++ [(k : Int) + 1]).length c9)) w.heap.size (fun q => wr.heap.size ≤ q ∧ q < w1.heap.size) (.slice A1v rows'.length c1v) rows' := (Kd.S_far (p := ⟨go, j, none⟩) (Kd.S_grown HK2.out hg3 (fun q hq e => (HOKI.out q (HRK.out.1 q e.symm)).1 hq)) (fun q hq e => y4 (show wr.heap.size ≤ go ∧ go < w1.heap.size from (show q = go from e) ▸ hq)) _); have hB3 := (HB2.out.trans (hb3.mono (Nat.le_refl _))).setCell (p := ⟨go, j, none⟩) y3 (.slice A9 (row ++ [(k : Int) + 1]).length c9); have hZ3 : w1.heap.size ≤ (w3.setCell ⟨go, j, none⟩ (.slice A9 (row ++ [(k : Int) + 1]).length c9)).heap.size := (by have h1 := hg3.size; have h2 := HWS.out; simp only [World.setCell, Array.size_modify]; omega); rw [show (row ++ [(k : Int) + 1]).length = row.length + 1 by simp] at hK3 hB3 hS3 hZ3; have HK3 := Lib.hid hK3; have HB3 := Lib.hid hB3; have HOR3 := Lib.hid hS3; have HZ3 := Lib.hid hZ3; clear hK3 hB3 hS3 hZ3 hr3 hb3 hg3 hat3 y3 y4)
          | (go_at_call 53; refine HPUT.out.mono ?_; rintro e w1 ⟨v1, rfl, hS1, hb1⟩; have HK1 : Hid (Kd.S (Kd.slice 3 (Kd.int .i64)) 32 w1 w.heap.size (fun q => wr.heap.size ≤ q ∧ q < w1.heap.size) v1 rows') := Lib.hid (Kd.S_lower (Kd.S_mono (Kd.S_bound hS1) (fun q hq => ⟨hq.2.1, hq.2.2.1⟩)) HBW0.out); have HOR1 : Hid (Kd.S (Kd.slice 3 (Kd.int .i64)) 32 w1 w.heap.size (fun q => ¬ (wr.heap.size ≤ q ∧ q < w1.heap.size)) (.slice (some ⟨go, 0, none⟩) ord.length co) ord) := Lib.hid (Kd.S_mono (Kd.S_below (Kd.S_bound HO.out) hb1) (fun q hq e => by have := hq.2.2.1; omega)); have HB1 := Lib.hid (HB.out.trans (hb1.mono HBW0.out)); have HBW := Lib.hid HB1.out.size; obtain ⟨A1v, c1v, rfl⟩ := Kd.S_slice hS1; have HSZ1 := Lib.hid hb1.size; have HOR2 := HOR1; have HK2 := HK1; have HB2 := HB1; have HWS := Lib.hid (Nat.le_refl w1.heap.size); obtain ⟨vk, q1, oki, hRk, hoki, hHk⟩ := S_elem HOR2.out j HJL.out; obtain ⟨row, hrow⟩ : ∃ row, row = rd_L1 ord (j : Int) := ⟨_, rfl⟩; rw [← hrow] at hRk; have HROW := Lib.hid hrow; have hbl : (row.length + 1) * 8 ≤ 140737488355328 := (by rw [hrow]; have := HRL.out; omega); obtain ⟨Ak, ck, rfl⟩ := Kd.R_slice hRk; have HRK := Lib.hid hRk; have HOKI := Lib.hid hoki; have HHK := Lib.hid hHk; clear hRk hoki hHk hrow; clear hS1 hb1))
        all_goals
          have hfin : (bS l0 (k + 1)).1 = rows' ∧ (bS l0 (k + 1)).2 = ord.set j (row ++ [(k : Int) + 1]) := by rw [HBS.out, HADD.out, ← HROW.out]; exact ⟨rfl, rfl⟩
          refine ⟨⟨k + 1, wr.heap.size, w1.heap.size, by omega, by go_num, ?_, ?_, HZ3, HB3⟩, by simp [intOf]; omega⟩
          · rw [hfin.1]; exact HK3
          · rw [hfin.2]; exact HOR3
    · obtain rfl : k = l0.length := by omega
      obtain ⟨Ao, co, rfl⟩ := Kd.S_slice HO.out
      obtain ⟨Ap, cp, rfl⟩ := Kd.S_slice HP.out
      clear i1 i2 i3 i4
      go_wp2
      go_ret2
      exact ⟨_, _, rfl, ⟨_, HP.out, HO.out⟩, HB.out⟩
end Go.Proofs.Ytpbemjdaanlaoaa.Pr
set_option linter.unusedVariables false
set_option linter.unusedSimpArgs false
namespace Go.Proofs.Ytpbemjdaanlaoaa.Pr
open Go.RowKit Go.Proofs.YtpbemjdaanlaoaaW.PrintWords Go.Proofs.YtpbemjdaanlaoaaW.PrintLast Go.Proofs.YtpbemjdaanlaoaaW.PrintMore
set_option maxRecDepth 100000

/-! The contracts of TakeOf, BuildOf, ReadOf in the form of the printed ones. -/
def cornB (rows : List (List Int)) (r : Nat) : Bool := decide (r < rows.length) && (!decide (r + 1 < rows.length) || decide (Ln rows (r + 1) < Ln rows r))
theorem cornB_iff (rows : List (List Int)) (r : Nat) : cornB rows r = true ↔ Corner rows r := by
  unfold cornB
  simp only [Bool.and_eq_true, Bool.or_eq_true, Bool.not_eq_true', decide_eq_true_eq, decide_eq_false_iff_not]
  constructor
  · rintro ⟨h1, h2⟩
    exact ⟨h1, fun h => h2.elim (fun h3 => absurd h h3) id⟩
  · rintro ⟨h1, h2⟩
    refine ⟨h1, ?_⟩
    by_cases h : r + 1 < rows.length
    · exact .inr (h2 h)
    · exact .inl h
def fippleref08_TakeOf.f (l0 : List (List Int)) (a1 : Int) : Option ((List (List Int)) × Int) := if (l0.length ≤ 1000 ∧ lenOk l0 = true) ∧ risesB l0 0 = true ∧ 0 ≤ a1 ∧ cornB l0 a1.toNat = true then some ((takeL l0 a1.toNat).1, (takeL l0 a1.toNat).2) else none
theorem fippleref08_TakeOf.calls (A0 : Option Addr) (c0 : Nat) (l0 : List (List Int)) (a1 : Int) (r1 : List (List Int)) (r2 : Int) (w : World) (hr0 : Kd.C (Kd.slice 3 (Kd.int .i64)) w A0 l0.length l0) (hc0 : l0.length ≤ c0) (h : fippleref08_TakeOf.f l0 a1 = some (r1, r2)) :
    Calls Try.prog 56 #[.slice A0 l0.length c0, .int .i64 a1] w fun e w' => ∃ v0_ : Value, e = .returned (.tuple #[v0_, .int .i64 r2]) ∧ Kd.S (Kd.slice 3 (Kd.int .i64)) 32 w' w.heap.size (fun _ => True) v0_ r1 ∧ Below w.heap.size w w' := by
  unfold fippleref08_TakeOf.f at h
  split at h
  · rename_i hc
    obtain ⟨⟨h1, h2⟩, h3, h4, h5⟩ := hc
    injection h with h
    injection h with e1 e2
    subst e1 e2
    obtain ⟨r, rfl⟩ := Int.eq_ofNat_of_zero_le h4
    rw [Int.toNat_natCast] at h5 ⊢
    exact takeOf56 A0 c0 l0 r w hr0 hc0 h1 (lenOk_iff.1 h2) (Rk.of h3) ((cornB_iff _ _).1 h5)
  · cases h
def fippleref08_BuildOf.f (l0 : List Int) : Option ((List (List Int)) × (List (List Int))) := if l0.length ≤ 12 ∧ within_ 1 99 l0 = true then some ((bS l0 l0.length).1, (bS l0 l0.length).2) else none
theorem fippleref08_BuildOf.calls (A0 : Option Addr) (c0 : Nat) (l0 : List Int) (r1 : List (List Int)) (r2 : List (List Int)) (w : World) (hr0 : Kd.C (Kd.int .i64) w A0 l0.length l0) (hc0 : l0.length ≤ c0) (h : fippleref08_BuildOf.f l0 = some (r1, r2)) :
    Calls Try.prog 57 #[.slice A0 l0.length c0] w fun e w' => ∃ v0_ v1_ : Value, e = .returned (.tuple #[v0_, v1_]) ∧ Kd.S (Kd.slice 3 (Kd.int .i64)) 32 w' w.heap.size (fun k_ => some k_ ≠ (v1_ : Value).ownBlock) v0_ r1 ∧ Kd.S (Kd.slice 3 (Kd.int .i64)) 32 w' w.heap.size (fun k_ => some k_ ≠ (v0_ : Value).ownBlock) v1_ r2 ∧ Below w.heap.size w w' := by
  unfold fippleref08_BuildOf.f at h
  split at h
  · rename_i hc
    injection h with h
    injection h with e1 e2
    subst e1 e2
    refine (buildOf57 A0 c0 l0 w hr0 hc.1 (fun x hx => wfi_of (by have := within_true hc.2 x hx; omega))).mono ?_
    rintro e w' ⟨v0, v1, rfl, ⟨Q, h1, h2⟩, hb⟩
    exact ⟨v0, v1, rfl, Kd.S_mono h1 (fun q hq e => Kd.S_R h2 |>.1 q e.symm hq), Kd.S_mono h2 (fun q hq e => hq (Kd.S_R h1 |>.1 q e.symm)), hb⟩
  · cases h
/-- The sums of racks of one shape. -/
theorem sum_lens : ∀ (a b : List (List Int)), a.length = b.length → (∀ i, Ln a i = Ln b i) → a.flatten.length = b.flatten.length
  | [], [], _, _ => rfl
  | [], _ :: _, h, _ => by simp at h
  | _ :: _, [], h, _ => by simp at h
  | x :: a, y :: b, h, hl => by
    have h0 : x.length = y.length := hl 0
    have ih := sum_lens a b (by simpa using h) (fun i => hl (i + 1))
    rw [List.flatten_cons, List.flatten_cons, List.length_append, List.length_append, h0, ih]
theorem same_lens {R O : List (List Int)} (hR : rkC R = 0) (hO : Od O) (h : sameSh O R = true) : R.length = O.length ∧ ∀ i, Ln R i = Ln O i := by
  have hRl := (rkC_okR hR).2
  have hOl : O.length ≤ 12 := Nat.le_trans (rises_len hO.ris) hO.le
  have hln : ∀ i, Ln R i = Ln O i := by
    intro i
    rcases Nat.lt_or_ge i 13 with h1 | h1
    · have h2 := of_decide_eq_true (List.all_eq_true.1 h i (List.mem_range.2 h1))
      have e : ∀ X : List (List Int), lenAt X X.length i = (Ln X i : Int) := by
        intro X
        unfold lenAt
        by_cases hi : i < X.length
        · rw [if_pos hi]; rfl
        · rw [if_neg hi, Ln_out (by omega)]; rfl
      rw [e, e] at h2
      omega
    · rw [Ln_out (by omega), Ln_out (by omega)]
  refine ⟨?_, hln⟩
  have p1 := fun k hk => (Rk.of (rkC_ok hR).2.2).pos k hk
  have p2 := fun k hk => (((rises_iff O 1).1 hO.ris).1 k hk).1
  rcases Nat.lt_trichotomy R.length O.length with h1 | h1 | h1
  · have := p2 _ h1
    rw [← hln, Ln_out (Nat.le_refl _)] at this
    omega
  · exact h1
  · have := p1 _ h1
    rw [hln, Ln_out (Nat.le_refl _)] at this
    omega
def fippleref08_ReadOf.f (l0 : List (List Int)) (l1 : List (List Int)) : Option (List Int) := if rkC l0 = 0 ∧ orC l1 = 0 ∧ sameSh l1 l0 = true then some (rdS l1 l0 l1.flatten.length l1.flatten.length).2 else none
theorem fippleref08_ReadOf.calls (A0 : Option Addr) (c0 : Nat) (l0 : List (List Int)) (A1 : Option Addr) (c1 : Nat) (l1 : List (List Int)) (r : List Int) (w : World) (hr0 : Kd.C (Kd.slice 3 (Kd.int .i64)) w A0 l0.length l0) (hc0 : l0.length ≤ c0) (hr1 : Kd.C (Kd.slice 3 (Kd.int .i64)) w A1 l1.length l1) (hc1 : l1.length ≤ c1) (h : fippleref08_ReadOf.f l0 l1 = some r) :
    Calls Try.prog 64 #[.slice A0 l0.length c0, .slice A1 l1.length c1] w fun e w' => ∃ v0_ : Value, e = .returned (v0_) ∧ Kd.R (Kd.int .i64) 3 w' w.heap.size (fun _ => True) v0_ r ∧ Below w.heap.size w w' := by
  unfold fippleref08_ReadOf.f at h
  split at h
  · rename_i hc
    injection h with h
    subst h
    obtain ⟨h1, h2, h3⟩ := hc
    have hO := Od.of h2
    have hs := same_lens h1 hO h3
    exact readOf64 A0 c0 l0 A1 c1 l1 w hr0 hc0 hr1 hc1 hO (upto_of h1 hO h3) (rkC_okR h1).1 (rkC_okR h1).2 (sum_lens _ _ hs.1 hs.2)
  · cases h
end Go.Proofs.Ytpbemjdaanlaoaa.Pr
/- Printed out of the translation by the kit's print.py: contracts of fippleref08_Put, fippleref08_Take. -/
namespace Go.Proofs.Ytpbemjdaanlaoaa.Pr
open Go.RowKit Go.Proofs.YtpbemjdaanlaoaaW.PrintWords Go.Proofs.YtpbemjdaanlaoaaW.PrintLast Go.Proofs.YtpbemjdaanlaoaaW.PrintMore
attribute [local go_sem] max2_int min2_int max_two min_two max_three min_three max_four min_four   -- for this text's walks alone
set_option linter.unusedVariables false
set_option linter.unusedSimpArgs false
-- BY HAND: function 9 (fipplelaw08_copied)
-- BY HAND: function 53 (fippleref08_PutOf)
/-! ### fippleref08_Put: function 16 -/
def fippleref08_Put.j0 : Nat → List (List Int) → Int → Bool → Option ((List (List Int)) × Int × Int)
 | 0, _, _, _ => none
 | k + 1, x0, x1, x19 => if x19 = true then (some (([] : List (List Int)), 0, 3)) else ((fippleref08_all.f k x0).bind fun t162 => (if (t162.length : Int) = 12 then (some (([] : List (List Int)), 0, 10)) else ((fippleref08_PutOf.f x0 x1).bind fun bt165 => (some (bt165.1, bt165.2, 0)))))
def fippleref08_Put.f (k : Nat) (l0 : List (List Int)) (a1 : Int) : Option ((List (List Int)) × Int × Int) := (fippleref08_CheckRack.f k l0).bind fun t160 => (if t160 = 0 then (if a1 < 1 then (fippleref08_Put.j0 k l0 a1 true) else (fippleref08_Put.j0 k l0 a1 (decide (a1 > 99)))) else ((fippleref08_CheckRack.f k l0).bind fun t161 => (some (([] : List (List Int)), 0, t161))))
theorem fippleref08_Put.mono_l : ∀ k, (∀ y0 y1 y2, LeO (fippleref08_Put.j0 k y0 y1 y2) (fippleref08_Put.j0 (k + 1) y0 y1 y2))
 | 0 => fun _ _ _ r h => by simp [fippleref08_Put.j0] at h
 | k + 1 => by
  have ih0 := fippleref08_Put.mono_l k
  ·
   intro y0 y1 y2
   unfold fippleref08_Put.j0
   repeat' first
   | (with_reducible exact ih0 _ _ _)
   | (with_reducible exact fippleref08_CheckRack.mono _ _)
   | (with_reducible exact fippleref08_all.mono _ _)
   | (with_reducible exact LeO.refl _)
   | (with_reducible exact LeO.none _)
   | (with_reducible refine LeO.ite ?_ ?_)
   | (with_reducible refine LeO.bind ?_ (fun _ => ?_))
   | exact ih0 _ _ _
   | exact fippleref08_CheckRack.mono _ _
   | exact fippleref08_all.mono _ _
   | exact LeO.none _
   | refine LeO.ite ?_ ?_
   | refine LeO.bind ?_ (fun _ => ?_)
theorem fippleref08_Put.mono : ∀ a0 a1 k, LeO (fippleref08_Put.f k a0 a1) (fippleref08_Put.f (k + 1) a0 a1) := by
 intro a0 a1 k
 have ih0 := fippleref08_Put.mono_l k
 unfold fippleref08_Put.f
 repeat' first
   | (with_reducible exact ih0 _ _ _)
   | (with_reducible exact fippleref08_CheckRack.mono _ _)
   | (with_reducible exact fippleref08_all.mono _ _)
   | (with_reducible exact LeO.refl _)
   | (with_reducible exact LeO.none _)
   | (with_reducible refine LeO.ite ?_ ?_)
   | (with_reducible refine LeO.bind ?_ (fun _ => ?_))
   | exact ih0 _ _ _
   | exact fippleref08_CheckRack.mono _ _
   | exact fippleref08_all.mono _ _
   | exact LeO.none _
   | refine LeO.ite ?_ ?_
   | refine LeO.bind ?_ (fun _ => ?_)
set_option maxHeartbeats 8000000 in
set_option maxRecDepth 100000 in
theorem fippleref08_Put.calls (k : Nat) (A0 : Option Addr) (c0 : Nat) (l0 : List (List Int)) (a1 : Int) (r1 : List (List Int)) (r2 : Int) (r3 : Int) (w : World) (hr0 : Kd.C (Kd.slice 3 (Kd.int .i64)) w A0 l0.length l0) (hc0 : l0.length ≤ c0) (h : fippleref08_Put.f k l0 a1 = some (r1, r2, r3)) :
  Calls Try.prog 16 #[.slice A0 l0.length c0, .int .i64 a1] w fun e w' => ∃ v0_ : Value, e = .returned (.tuple #[v0_, .int .i64 r2, .int .i64 r3]) ∧ Kd.S (Kd.slice 3 (Kd.int .i64)) 32 w' w.heap.size (fun _ => True) v0_ r1 ∧ Below w.heap.size w w' := by
 have HR0 := Aside0.mk hr0
 have HC0 := Aside0.mk hc0
 clear hr0 hc0
 have HB := Aside0.mk (Below.refl w.heap.size w)
 have H : ((fippleref08_CheckRack.f k l0).bind fun t160 => (if t160 = 0 then (if a1 < 1 then (fippleref08_Put.j0 k l0 a1 true) else (fippleref08_Put.j0 k l0 a1 (decide (a1 > 99)))) else ((fippleref08_CheckRack.f k l0).bind fun t161 => (some (([] : List (List Int)), 0, t161))))) = some (r1, r2, r3) := h
 clear h
 replace H := Option.bind_eq_some_iff.mp H
 obtain ⟨t160, A30, H⟩ := H
 replace H : (if t160 = 0 then (if a1 < 1 then (fippleref08_Put.j0 k l0 a1 true) else (fippleref08_Put.j0 k l0 a1 (decide (a1 > 99)))) else ((fippleref08_CheckRack.f k l0).bind fun t161 => (some (([] : List (List Int)), 0, t161)))) = some (r1, r2, r3) := H
 have A3 := Aside0.mk A30
 clear A30
 by_cases c4 : t160 = 0
 ·
  rw [if_pos c4] at H
  have c4b0 : (t160 == 0) = true := beq_iff_eq.mpr c4
  have c4b1 : (t160 != 0) = false := bne_eq_false_iff_eq.mpr c4
  clear c4
  have HC5 := Aside0.mk H
  clear H
  go_enter Try.func16, Try.ntmps16
  go_upto_region 3 with (first | ((with_reducible refine gate_callee (f := 11) rfl ?_); refine goesL_ (some 10) rfl rfl Try.func11 (by kernel_rfl) rfl #[.slice A0 l0.length c0] rfl (by (try simp only [List.map_toArray, List.map_cons, List.map_nil]); first | done | rfl | (simp only [List.length_drop, List.length_take]; rfl)) ?_; (with_reducible refine (fippleref08_CheckRack.calls k _ _ l0 t160 _ ?side1 ?side2 A3.out).mono ?_); (case side1 => repeat (first | exact HR0.out | (with_reducible refine Kd.C_alloc ?_ _) | (with_reducible refine Kd.C_drewN ?_ _) | (with_reducible refine Kd.C_drew ?_))); (case side2 => exact HC0.out); rintro e w6 ⟨rfl, hb⟩; refine ⟨_, rfl, ?_⟩; have n0_ := Aside0.mk (below_step (by repeat (first | (with_reducible first | exact HB.out | apply below_alloc | apply pw_below_drewN | apply below_drew1) | exact HB.out)) hb); clear HB; have HB := n0_; clear n0_; (try clear hb); (try clear hb2); (try clear hk); (try clear hi)))
  (try simp only [Act.put, List.setIfInBounds_toArray, List.set_cons_zero, List.set_cons_succ])
  go_cut [19] (fun v19 wc => ∃ (kq : Nat) (x19_4 : Bool), v19 = .bool x19_4 ∧ Aside0 (fippleref08_Put.j0 kq l0 a1 x19_4 = some (r1, r2, r3)) ∧ Aside0 (kq ≤ k) ∧ Aside0 (Below w.heap.size w wc))
  case first =>
   have H := HC5.out
   clear HC5
   by_cases c7 : a1 < 1
   ·
    rw [if_pos c7] at H
    have c7b0 : decide (a1 < 1) = true := decide_eq_true c7
    clear c7
    (first | rw [c7b0] | (simp only [i64_w, i32_w]; rw [c7b0]) | skip)
    have H' := Aside0.mk H
    clear H
    go_wp2
    go_meet
    case rel => exact ⟨_, (true), (by first | rfl | (simp; done) | (simp [*]; done)), H', ⟨by first | omega | exact Nat.le_refl _⟩, ⟨by repeat (first | (with_reducible first | exact HB.out | apply below_alloc | apply pw_below_drewN | apply below_drew1) | exact HB.out)⟩⟩
   ·
    rw [if_neg c7] at H
    have c7b0 : decide (a1 < 1) = false := decide_eq_false c7
    clear c7
    (first | rw [c7b0] | (simp only [i64_w, i32_w]; rw [c7b0]) | skip)
    have H' := Aside0.mk H
    clear H
    go_wp2
    go_meet
    case rel => exact ⟨_, (decide (a1 > 99)), (by first | rfl | (simp; done) | (simp [*]; done)), H', ⟨by first | omega | exact Nat.le_refl _⟩, ⟨by repeat (first | (with_reducible first | exact HB.out | apply below_alloc | apply pw_below_drewN | apply below_drew1) | exact HB.out)⟩⟩
  case rest =>
   clear HC5
   try clear c1
   try clear p2
   try clear c4
   try clear c4b0
   try clear c4b1
   try clear c7
   try clear c7b0
   obtain ⟨kq, x19_4, rfl, HA, HJ4, HB⟩ := hcut
   cases kq with
   | zero => exact absurd HA.out (by simp [fippleref08_Put.j0])
   | succ kj4 =>
    have H := HA.out
    clear HA
    simp only [fippleref08_Put.j0] at H
    by_cases c8 : x19_4 = true
    ·
     subst c8
     have H1 : (some (([] : List (List Int)), 0, 3)) = some (r1, r2, r3) := by rw [if_pos rfl] at H; exact H
     clear H
     have H := H1
     clear H1
     simp only [Option.some.injEq, Prod.mk.injEq] at H
     obtain ⟨rfl, rfl, rfl⟩ := H
     go_wp2
     go_ret3
     exact ⟨_, by first | rfl | (simp [errW_none, errW_some] <;> rfl) | (simp [*, errW_none, errW_some] <;> rfl), by first | exact Kd.S_nil _ _ _ _ _ | exact Kd.N_nil _ _ _ _ _ | exact Kd.V_nil _ _ _ _ _ | exact Kd.Q_nil _ _ _ _ _ | exact Kd.R_nil _ _ _ _ _, by repeat (first | (with_reducible first | exact HB.out | apply below_alloc | apply pw_below_drewN | apply below_drew1) | exact HB.out)⟩
    ·
     replace c8 := Bool.eq_false_iff.mpr c8
     subst c8
     have H1 : ((fippleref08_all.f kj4 l0).bind fun t162 => (if (t162.length : Int) = 12 then (some (([] : List (List Int)), 0, 10)) else ((fippleref08_PutOf.f l0 a1).bind fun bt165 => (some (bt165.1, bt165.2, 0))))) = some (r1, r2, r3) := by rw [if_neg (show ¬ (false = true) by decide)] at H; exact H
     clear H
     have H := H1
     clear H1
     replace H := Option.bind_eq_some_iff.mp H
     obtain ⟨t162, A90, H⟩ := H
     replace H : (if (t162.length : Int) = 12 then (some (([] : List (List Int)), 0, 10)) else ((fippleref08_PutOf.f l0 a1).bind fun bt165 => (some (bt165.1, bt165.2, 0)))) = some (r1, r2, r3) := H
     have A9 := Aside0.mk A90
     clear A90
     by_cases c10 : (t162.length : Int) = 12
     ·
      rw [if_pos c10] at H
      have c10b0 : ((t162.length : Int) == 12) = true := beq_iff_eq.mpr c10
      have c10b1 : ((t162.length : Int) != 12) = false := bne_eq_false_iff_eq.mpr c10
      clear c10
      simp only [Option.some.injEq, Prod.mk.injEq] at H
      obtain ⟨rfl, rfl, rfl⟩ := H
      go_wp2_with (first | ((with_reducible refine gate_callee (f := 45) rfl ?_); refine goesL_ (some 21) rfl rfl Try.func45 (by kernel_rfl) rfl #[.slice A0 l0.length c0] rfl (by (try simp only [List.map_toArray, List.map_cons, List.map_nil]); first | done | rfl | (simp only [List.length_drop, List.length_take]; rfl)) ?_; (with_reducible refine (fippleref08_all.calls kj4 _ _ l0 t162 _ ?side1 ?side2 A9.out).mono ?_); (case side1 => repeat (first | exact (Kd.C_below HR0.out HB.out) | (with_reducible refine Kd.C_alloc ?_ _) | (with_reducible refine Kd.C_drewN ?_ _) | (with_reducible refine Kd.C_drew ?_))); (case side2 => exact HC0.out); rintro e w11 ⟨v163, rfl, ho0, hb⟩; refine ⟨_, rfl, ?_⟩; have n0_ := Aside0.mk (Kd.R_lower ho0 (below_size (by repeat (first | (with_reducible first | exact HB.out | apply below_alloc | apply pw_below_drewN | apply below_drew1) | exact HB.out)))); have n1_ := Aside0.mk (below_step (by repeat (first | (with_reducible first | exact HB.out | apply below_alloc | apply pw_below_drewN | apply below_drew1) | exact HB.out)) hb); clear HB; have HO164 := n0_; have HB := n1_; clear n0_ n1_; (try clear hb); (try clear hb2); (try clear hk); (try clear hi); (try clear ho0); obtain ⟨Ao12, co12, eo12⟩ := Kd.R_slice HO164.out; subst eo12))
      go_ret3
      exact ⟨_, by first | rfl | (simp [errW_none, errW_some] <;> rfl) | (simp [*, errW_none, errW_some] <;> rfl), by first | exact Kd.S_nil _ _ _ _ _ | exact Kd.N_nil _ _ _ _ _ | exact Kd.V_nil _ _ _ _ _ | exact Kd.Q_nil _ _ _ _ _ | exact Kd.R_nil _ _ _ _ _, by repeat (first | (with_reducible first | exact HB.out | apply below_alloc | apply pw_below_drewN | apply below_drew1) | exact HB.out)⟩
     ·
      rw [if_neg c10] at H
      have c10b0 : ((t162.length : Int) == 12) = false := beq_eq_false_iff_ne.mpr c10
      have c10b1 : ((t162.length : Int) != 12) = true := bne_iff_ne.mpr c10
      replace H := Option.bind_eq_some_iff.mp H
      obtain ⟨⟨t165, t166⟩, A130, H⟩ := H
      replace H : (some (t165, t166, 0)) = some (r1, r2, r3) := H
      have A13 := Aside0.mk A130
      clear A130
      simp only [Option.some.injEq, Prod.mk.injEq] at H
      obtain ⟨rfl, rfl, rfl⟩ := H
      go_wp2_with (first | ((with_reducible refine gate_callee (f := 45) rfl ?_); refine goesL_ (some 21) rfl rfl Try.func45 (by kernel_rfl) rfl #[.slice A0 l0.length c0] rfl (by (try simp only [List.map_toArray, List.map_cons, List.map_nil]); first | done | rfl | (simp only [List.length_drop, List.length_take]; rfl)) ?_; (with_reducible refine (fippleref08_all.calls kj4 _ _ l0 t162 _ ?side1 ?side2 A9.out).mono ?_); (case side1 => repeat (first | exact (Kd.C_below HR0.out HB.out) | (with_reducible refine Kd.C_alloc ?_ _) | (with_reducible refine Kd.C_drewN ?_ _) | (with_reducible refine Kd.C_drew ?_))); (case side2 => exact HC0.out); rintro e w14 ⟨v163, rfl, ho0, hb⟩; refine ⟨_, rfl, ?_⟩; have n0_ := Aside0.mk (Kd.R_lower ho0 (below_size (by repeat (first | (with_reducible first | exact HB.out | apply below_alloc | apply pw_below_drewN | apply below_drew1) | exact HB.out)))); have n1_ := Aside0.mk (below_step (by repeat (first | (with_reducible first | exact HB.out | apply below_alloc | apply pw_below_drewN | apply below_drew1) | exact HB.out)) hb); clear HB; have HO164 := n0_; have HB := n1_; clear n0_ n1_; (try clear hb); (try clear hb2); (try clear hk); (try clear hi); (try clear ho0); obtain ⟨Ao15, co15, eo15⟩ := Kd.R_slice HO164.out; subst eo15) | ((with_reducible refine gate_callee (f := 53) rfl ?_); refine goesL_ (some 27) rfl rfl Try.func53 (by kernel_rfl) rfl #[.slice A0 l0.length c0, .int .i64 a1] rfl (by (try simp only [List.map_toArray, List.map_cons, List.map_nil]); first | done | rfl | (simp only [List.length_drop, List.length_take]; rfl)) ?_; (with_reducible refine (fippleref08_PutOf.calls _ _ l0 a1 t165 t166 _ ?side1 ?side2 A13.out).mono ?_); (case side1 => repeat (first | exact (Kd.C_below HR0.out HB.out) | (with_reducible refine Kd.C_alloc ?_ _) | (with_reducible refine Kd.C_drewN ?_ _) | (with_reducible refine Kd.C_drew ?_))); (case side2 => exact HC0.out); rintro e w16 ⟨v167, rfl, ho0, hb⟩; refine ⟨_, rfl, ?_⟩; have n0_ := Aside0.mk (Kd.R_below (by (with_reducible repeat (first | apply Kd.R_alloc | apply Kd.R_drewN | apply Kd.R_drew)); exact HO164.out) hb); have n1_ := Aside0.mk (Kd.S_lower (Kd.S_new' ho0 (Kd.R_lt (by (with_reducible repeat (first | apply Kd.R_alloc | apply Kd.R_drewN | apply Kd.R_drew)); exact HO164.out))) (below_size (by repeat (first | (with_reducible first | exact HB.out | apply below_alloc | apply pw_below_drewN | apply below_drew1) | exact HB.out)))); have n2_ := Aside0.mk (below_step (by repeat (first | (with_reducible first | exact HB.out | apply below_alloc | apply pw_below_drewN | apply below_drew1) | exact HB.out)) hb); clear HO164; clear HB; have HO164 := n0_; have HO168 := n1_; have HB := n2_; clear n0_ n1_ n2_; (try clear hb); (try clear hb2); (try clear hk); (try clear hi); (try clear ho0)))
      go_ret3
      exact ⟨_, by first | rfl | (simp [errW_none, errW_some] <;> rfl) | (simp [*, errW_none, errW_some] <;> rfl), by (with_reducible repeat (first | apply Kd.S_alloc | apply Kd.S_drewN | apply Kd.S_drew)); exact Kd.S_mono HO168.out (fun _ hk => trivial), by repeat (first | (with_reducible first | exact HB.out | apply below_alloc | apply pw_below_drewN | apply below_drew1) | exact HB.out)⟩
 ·
  rw [if_neg c4] at H
  have c4b0 : (t160 == 0) = false := beq_eq_false_iff_ne.mpr c4
  have c4b1 : (t160 != 0) = true := bne_iff_ne.mpr c4
  replace H := Option.bind_eq_some_iff.mp H
  obtain ⟨t161, A170, H⟩ := H
  replace H : (some (([] : List (List Int)), 0, t161)) = some (r1, r2, r3) := H
  have A17 := Aside0.mk A170
  clear A170
  simp only [Option.some.injEq, Prod.mk.injEq] at H
  obtain ⟨rfl, rfl, rfl⟩ := H
  go_enter Try.func16, Try.ntmps16
  go_wp2_with (first | ((with_reducible refine gate_callee (f := 11) rfl ?_); refine goesL_ (some 10) rfl rfl Try.func11 (by kernel_rfl) rfl #[.slice A0 l0.length c0] rfl (by (try simp only [List.map_toArray, List.map_cons, List.map_nil]); first | done | rfl | (simp only [List.length_drop, List.length_take]; rfl)) ?_; (with_reducible refine (fippleref08_CheckRack.calls k _ _ l0 t160 _ ?side1 ?side2 A3.out).mono ?_); (case side1 => repeat (first | exact HR0.out | (with_reducible refine Kd.C_alloc ?_ _) | (with_reducible refine Kd.C_drewN ?_ _) | (with_reducible refine Kd.C_drew ?_))); (case side2 => exact HC0.out); rintro e w18 ⟨rfl, hb⟩; refine ⟨_, rfl, ?_⟩; have n0_ := Aside0.mk (below_step (by repeat (first | (with_reducible first | exact HB.out | apply below_alloc | apply pw_below_drewN | apply below_drew1) | exact HB.out)) hb); clear HB; have HB := n0_; clear n0_; (try clear hb); (try clear hb2); (try clear hk); (try clear hi)) | ((with_reducible refine gate_callee (f := 11) rfl ?_); refine goesL_ (some 13) rfl rfl Try.func11 (by kernel_rfl) rfl #[.slice A0 l0.length c0] rfl (by (try simp only [List.map_toArray, List.map_cons, List.map_nil]); first | done | rfl | (simp only [List.length_drop, List.length_take]; rfl)) ?_; (with_reducible refine (fippleref08_CheckRack.calls k _ _ l0 t161 _ ?side1 ?side2 A17.out).mono ?_); (case side1 => repeat (first | exact (Kd.C_below HR0.out HB.out) | (with_reducible refine Kd.C_alloc ?_ _) | (with_reducible refine Kd.C_drewN ?_ _) | (with_reducible refine Kd.C_drew ?_))); (case side2 => exact HC0.out); rintro e w19 ⟨rfl, hb⟩; refine ⟨_, rfl, ?_⟩; have n0_ := Aside0.mk (below_step (by repeat (first | (with_reducible first | exact HB.out | apply below_alloc | apply pw_below_drewN | apply below_drew1) | exact HB.out)) hb); clear HB; have HB := n0_; clear n0_; (try clear hb); (try clear hb2); (try clear hk); (try clear hi)))
  go_ret3
  exact ⟨_, by first | rfl | (simp [errW_none, errW_some] <;> rfl) | (simp [*, errW_none, errW_some] <;> rfl), by first | exact Kd.S_nil _ _ _ _ _ | exact Kd.N_nil _ _ _ _ _ | exact Kd.V_nil _ _ _ _ _ | exact Kd.Q_nil _ _ _ _ _ | exact Kd.R_nil _ _ _ _ _, by repeat (first | (with_reducible first | exact HB.out | apply below_alloc | apply pw_below_drewN | apply below_drew1) | exact HB.out)⟩

-- BY HAND: function 56 (fippleref08_TakeOf)

/-! ### fippleref08_Take: function 18 -/
def fippleref08_Take.j0 : Nat → List (List Int) → Int → Bool → Option ((List (List Int)) × Int × Int)
 | 0, _, _, _ => none
 | k + 1, x0, x1, x21 => if x21 = true then (some (([] : List (List Int)), 0, 2)) else ((fippleref08_CanTake.f x0 x1).bind fun t173 => (if t173 = true then ((fippleref08_TakeOf.f x0 x1).bind fun bt174 => (some (bt174.1, bt174.2, 0))) else (some (([] : List (List Int)), 0, 22))))
def fippleref08_Take.f (k : Nat) (l0 : List (List Int)) (a1 : Int) : Option ((List (List Int)) × Int × Int) := (fippleref08_CheckRack.f k l0).bind fun t171 => (if t171 = 0 then (if a1 < 0 then (fippleref08_Take.j0 k l0 a1 true) else (fippleref08_Take.j0 k l0 a1 (decide (a1 ≥ (l0.length : Int))))) else ((fippleref08_CheckRack.f k l0).bind fun t172 => (some (([] : List (List Int)), 0, t172))))
theorem fippleref08_Take.mono_l : ∀ k, (∀ y0 y1 y2, LeO (fippleref08_Take.j0 k y0 y1 y2) (fippleref08_Take.j0 (k + 1) y0 y1 y2))
 | 0 => fun _ _ _ r h => by simp [fippleref08_Take.j0] at h
 | k + 1 => by
  have ih0 := fippleref08_Take.mono_l k
  ·
   intro y0 y1 y2
   unfold fippleref08_Take.j0
   repeat' first
   | (with_reducible exact ih0 _ _ _)
   | (with_reducible exact fippleref08_CheckRack.mono _ _)
   | (with_reducible exact LeO.refl _)
   | (with_reducible exact LeO.none _)
   | (with_reducible refine LeO.ite ?_ ?_)
   | (with_reducible refine LeO.bind ?_ (fun _ => ?_))
   | exact ih0 _ _ _
   | exact fippleref08_CheckRack.mono _ _
   | exact LeO.none _
   | refine LeO.ite ?_ ?_
   | refine LeO.bind ?_ (fun _ => ?_)
theorem fippleref08_Take.mono : ∀ a0 a1 k, LeO (fippleref08_Take.f k a0 a1) (fippleref08_Take.f (k + 1) a0 a1) := by
 intro a0 a1 k
 have ih0 := fippleref08_Take.mono_l k
 unfold fippleref08_Take.f
 repeat' first
   | (with_reducible exact ih0 _ _ _)
   | (with_reducible exact fippleref08_CheckRack.mono _ _)
   | (with_reducible exact LeO.refl _)
   | (with_reducible exact LeO.none _)
   | (with_reducible refine LeO.ite ?_ ?_)
   | (with_reducible refine LeO.bind ?_ (fun _ => ?_))
   | exact ih0 _ _ _
   | exact fippleref08_CheckRack.mono _ _
   | exact LeO.none _
   | refine LeO.ite ?_ ?_
   | refine LeO.bind ?_ (fun _ => ?_)
set_option maxHeartbeats 8000000 in
set_option maxRecDepth 100000 in
theorem fippleref08_Take.calls (k : Nat) (A0 : Option Addr) (c0 : Nat) (l0 : List (List Int)) (a1 : Int) (r1 : List (List Int)) (r2 : Int) (r3 : Int) (w : World) (hr0 : Kd.C (Kd.slice 3 (Kd.int .i64)) w A0 l0.length l0) (hc0 : l0.length ≤ c0) (h : fippleref08_Take.f k l0 a1 = some (r1, r2, r3)) :
  Calls Try.prog 18 #[.slice A0 l0.length c0, .int .i64 a1] w fun e w' => ∃ v0_ : Value, e = .returned (.tuple #[v0_, .int .i64 r2, .int .i64 r3]) ∧ Kd.S (Kd.slice 3 (Kd.int .i64)) 32 w' w.heap.size (fun _ => True) v0_ r1 ∧ Below w.heap.size w w' := by
 have HR0 := Aside0.mk hr0
 have HC0 := Aside0.mk hc0
 clear hr0 hc0
 have HB := Aside0.mk (Below.refl w.heap.size w)
 have H : ((fippleref08_CheckRack.f k l0).bind fun t171 => (if t171 = 0 then (if a1 < 0 then (fippleref08_Take.j0 k l0 a1 true) else (fippleref08_Take.j0 k l0 a1 (decide (a1 ≥ (l0.length : Int))))) else ((fippleref08_CheckRack.f k l0).bind fun t172 => (some (([] : List (List Int)), 0, t172))))) = some (r1, r2, r3) := h
 clear h
 replace H := Option.bind_eq_some_iff.mp H
 obtain ⟨t171, A30, H⟩ := H
 replace H : (if t171 = 0 then (if a1 < 0 then (fippleref08_Take.j0 k l0 a1 true) else (fippleref08_Take.j0 k l0 a1 (decide (a1 ≥ (l0.length : Int))))) else ((fippleref08_CheckRack.f k l0).bind fun t172 => (some (([] : List (List Int)), 0, t172)))) = some (r1, r2, r3) := H
 have A3 := Aside0.mk A30
 clear A30
 by_cases c4 : t171 = 0
 ·
  rw [if_pos c4] at H
  have c4b0 : (t171 == 0) = true := beq_iff_eq.mpr c4
  have c4b1 : (t171 != 0) = false := bne_eq_false_iff_eq.mpr c4
  clear c4
  have HC5 := Aside0.mk H
  clear H
  go_enter Try.func18, Try.ntmps18
  go_upto_region 3 with (first | ((with_reducible refine gate_callee (f := 11) rfl ?_); refine goesL_ (some 10) rfl rfl Try.func11 (by kernel_rfl) rfl #[.slice A0 l0.length c0] rfl (by (try simp only [List.map_toArray, List.map_cons, List.map_nil]); first | done | rfl | (simp only [List.length_drop, List.length_take]; rfl)) ?_; (with_reducible refine (fippleref08_CheckRack.calls k _ _ l0 t171 _ ?side1 ?side2 A3.out).mono ?_); (case side1 => repeat (first | exact HR0.out | (with_reducible refine Kd.C_alloc ?_ _) | (with_reducible refine Kd.C_drewN ?_ _) | (with_reducible refine Kd.C_drew ?_))); (case side2 => exact HC0.out); rintro e w6 ⟨rfl, hb⟩; refine ⟨_, rfl, ?_⟩; have n0_ := Aside0.mk (below_step (by repeat (first | (with_reducible first | exact HB.out | apply below_alloc | apply pw_below_drewN | apply below_drew1) | exact HB.out)) hb); clear HB; have HB := n0_; clear n0_; (try clear hb); (try clear hb2); (try clear hk); (try clear hi)))
  (try simp only [Act.put, List.setIfInBounds_toArray, List.set_cons_zero, List.set_cons_succ])
  go_cut [21] (fun v21 wc => ∃ (kq : Nat) (x21_4 : Bool), v21 = .bool x21_4 ∧ Aside0 (fippleref08_Take.j0 kq l0 a1 x21_4 = some (r1, r2, r3)) ∧ Aside0 (kq ≤ k) ∧ Aside0 (Below w.heap.size w wc))
  case first =>
   have H := HC5.out
   clear HC5
   by_cases c7 : a1 < 0
   ·
    rw [if_pos c7] at H
    have c7b0 : decide (a1 < 0) = true := decide_eq_true c7
    clear c7
    (first | rw [c7b0] | (simp only [i64_w, i32_w]; rw [c7b0]) | skip)
    have H' := Aside0.mk H
    clear H
    go_wp2
    go_meet
    case rel => exact ⟨_, (true), (by first | rfl | (simp; done) | (simp [*]; done)), H', ⟨by first | omega | exact Nat.le_refl _⟩, ⟨by repeat (first | (with_reducible first | exact HB.out | apply below_alloc | apply pw_below_drewN | apply below_drew1) | exact HB.out)⟩⟩
   ·
    rw [if_neg c7] at H
    have c7b0 : decide (a1 < 0) = false := decide_eq_false c7
    clear c7
    (first | rw [c7b0] | (simp only [i64_w, i32_w]; rw [c7b0]) | skip)
    have H' := Aside0.mk H
    clear H
    go_wp2
    go_meet
    case rel => exact ⟨_, (decide (a1 ≥ (l0.length : Int))), (by first | rfl | (simp; done) | (simp [*]; done)), H', ⟨by first | omega | exact Nat.le_refl _⟩, ⟨by repeat (first | (with_reducible first | exact HB.out | apply below_alloc | apply pw_below_drewN | apply below_drew1) | exact HB.out)⟩⟩
  case rest =>
   clear HC5
   try clear c1
   try clear p2
   try clear c4
   try clear c4b0
   try clear c4b1
   try clear c7
   try clear c7b0
   obtain ⟨kq, x21_4, rfl, HA, HJ4, HB⟩ := hcut
   cases kq with
   | zero => exact absurd HA.out (by simp [fippleref08_Take.j0])
   | succ kj4 =>
    have H := HA.out
    clear HA
    simp only [fippleref08_Take.j0] at H
    by_cases c8 : x21_4 = true
    ·
     subst c8
     have H1 : (some (([] : List (List Int)), 0, 2)) = some (r1, r2, r3) := by rw [if_pos rfl] at H; exact H
     clear H
     have H := H1
     clear H1
     simp only [Option.some.injEq, Prod.mk.injEq] at H
     obtain ⟨rfl, rfl, rfl⟩ := H
     go_wp2
     go_ret3
     exact ⟨_, by first | rfl | (simp [errW_none, errW_some] <;> rfl) | (simp [*, errW_none, errW_some] <;> rfl), by first | exact Kd.S_nil _ _ _ _ _ | exact Kd.N_nil _ _ _ _ _ | exact Kd.V_nil _ _ _ _ _ | exact Kd.Q_nil _ _ _ _ _ | exact Kd.R_nil _ _ _ _ _, by repeat (first | (with_reducible first | exact HB.out | apply below_alloc | apply pw_below_drewN | apply below_drew1) | exact HB.out)⟩
    ·
     replace c8 := Bool.eq_false_iff.mpr c8
     subst c8
     have H1 : ((fippleref08_CanTake.f l0 a1).bind fun t173 => (if t173 = true then ((fippleref08_TakeOf.f l0 a1).bind fun bt174 => (some (bt174.1, bt174.2, 0))) else (some (([] : List (List Int)), 0, 22)))) = some (r1, r2, r3) := by rw [if_neg (show ¬ (false = true) by decide)] at H; exact H
     clear H
     have H := H1
     clear H1
     replace H := Option.bind_eq_some_iff.mp H
     obtain ⟨t173, A90, H⟩ := H
     replace H : (if t173 = true then ((fippleref08_TakeOf.f l0 a1).bind fun bt174 => (some (bt174.1, bt174.2, 0))) else (some (([] : List (List Int)), 0, 22))) = some (r1, r2, r3) := H
     have A9 := Aside0.mk A90
     clear A90
     by_cases c10 : t173 = true
     ·
      subst c10
      have H1 : ((fippleref08_TakeOf.f l0 a1).bind fun bt174 => (some (bt174.1, bt174.2, 0))) = some (r1, r2, r3) := by rw [if_pos rfl] at H; exact H
      clear H
      have H := H1
      clear H1
      replace H := Option.bind_eq_some_iff.mp H
      obtain ⟨⟨t174, t175⟩, A110, H⟩ := H
      replace H : (some (t174, t175, 0)) = some (r1, r2, r3) := H
      have A11 := Aside0.mk A110
      clear A110
      simp only [Option.some.injEq, Prod.mk.injEq] at H
      obtain ⟨rfl, rfl, rfl⟩ := H
      go_wp2_with (first | ((with_reducible refine gate_callee (f := 55) rfl ?_); refine goesL_ (some 24) rfl rfl Try.func55 (by kernel_rfl) rfl #[.slice A0 l0.length c0, .int .i64 a1] rfl (by (try simp only [List.map_toArray, List.map_cons, List.map_nil]); first | done | rfl | (simp only [List.length_drop, List.length_take]; rfl)) ?_; (with_reducible refine (fippleref08_CanTake.calls _ _ l0 a1 true _ ?side1 ?side2 A9.out).mono ?_); (case side1 => repeat (first | exact (Kd.C_below HR0.out HB.out) | (with_reducible refine Kd.C_alloc ?_ _) | (with_reducible refine Kd.C_drewN ?_ _) | (with_reducible refine Kd.C_drew ?_))); (case side2 => exact HC0.out); rintro e w' ⟨rfl, ⟨nd, rfl⟩⟩; refine ⟨_, rfl, ?_⟩) | ((with_reducible refine gate_callee (f := 56) rfl ?_); refine goesL_ (some 29) rfl rfl Try.func56 (by kernel_rfl) rfl #[.slice A0 l0.length c0, .int .i64 a1] rfl (by (try simp only [List.map_toArray, List.map_cons, List.map_nil]); first | done | rfl | (simp only [List.length_drop, List.length_take]; rfl)) ?_; (with_reducible refine (fippleref08_TakeOf.calls _ _ l0 a1 t174 t175 _ ?side1 ?side2 A11.out).mono ?_); (case side1 => repeat (first | exact (Kd.C_below HR0.out (by repeat (first | (with_reducible first | exact HB.out | apply below_alloc | apply pw_below_drewN | apply below_drew1) | exact HB.out))) | (with_reducible refine Kd.C_alloc ?_ _) | (with_reducible refine Kd.C_drewN ?_ _) | (with_reducible refine Kd.C_drew ?_))); (case side2 => exact HC0.out); rintro e w12 ⟨v176, rfl, ho0, hb⟩; refine ⟨_, rfl, ?_⟩; have n0_ := Aside0.mk (Kd.S_lower ho0 (below_size (by repeat (first | (with_reducible first | exact HB.out | apply below_alloc | apply pw_below_drewN | apply below_drew1) | exact HB.out)))); have n1_ := Aside0.mk (below_step (by repeat (first | (with_reducible first | exact HB.out | apply below_alloc | apply pw_below_drewN | apply below_drew1) | exact HB.out)) hb); clear HB; have HO177 := n0_; have HB := n1_; clear n0_ n1_; (try clear hb); (try clear hb2); (try clear hk); (try clear hi); (try clear ho0)))
      go_ret3
      exact ⟨_, by first | rfl | (simp [errW_none, errW_some] <;> rfl) | (simp [*, errW_none, errW_some] <;> rfl), by (with_reducible repeat (first | apply Kd.S_alloc | apply Kd.S_drewN | apply Kd.S_drew)); exact HO177.out, by repeat (first | (with_reducible first | exact HB.out | apply below_alloc | apply pw_below_drewN | apply below_drew1) | exact HB.out)⟩
     ·
      replace c10 := Bool.eq_false_iff.mpr c10
      subst c10
      have H1 : (some (([] : List (List Int)), 0, 22)) = some (r1, r2, r3) := by rw [if_neg (show ¬ (false = true) by decide)] at H; exact H
      clear H
      have H := H1
      clear H1
      simp only [Option.some.injEq, Prod.mk.injEq] at H
      obtain ⟨rfl, rfl, rfl⟩ := H
      go_wp2_with (first | ((with_reducible refine gate_callee (f := 55) rfl ?_); refine goesL_ (some 24) rfl rfl Try.func55 (by kernel_rfl) rfl #[.slice A0 l0.length c0, .int .i64 a1] rfl (by (try simp only [List.map_toArray, List.map_cons, List.map_nil]); first | done | rfl | (simp only [List.length_drop, List.length_take]; rfl)) ?_; (with_reducible refine (fippleref08_CanTake.calls _ _ l0 a1 false _ ?side1 ?side2 A9.out).mono ?_); (case side1 => repeat (first | exact (Kd.C_below HR0.out HB.out) | (with_reducible refine Kd.C_alloc ?_ _) | (with_reducible refine Kd.C_drewN ?_ _) | (with_reducible refine Kd.C_drew ?_))); (case side2 => exact HC0.out); rintro e w' ⟨rfl, ⟨nd, rfl⟩⟩; refine ⟨_, rfl, ?_⟩))
      go_ret3
      exact ⟨_, by first | rfl | (simp [errW_none, errW_some] <;> rfl) | (simp [*, errW_none, errW_some] <;> rfl), by first | exact Kd.S_nil _ _ _ _ _ | exact Kd.N_nil _ _ _ _ _ | exact Kd.V_nil _ _ _ _ _ | exact Kd.Q_nil _ _ _ _ _ | exact Kd.R_nil _ _ _ _ _, by repeat (first | (with_reducible first | exact HB.out | apply below_alloc | apply pw_below_drewN | apply below_drew1) | exact HB.out)⟩
 ·
  rw [if_neg c4] at H
  have c4b0 : (t171 == 0) = false := beq_eq_false_iff_ne.mpr c4
  have c4b1 : (t171 != 0) = true := bne_iff_ne.mpr c4
  replace H := Option.bind_eq_some_iff.mp H
  obtain ⟨t172, A130, H⟩ := H
  replace H : (some (([] : List (List Int)), 0, t172)) = some (r1, r2, r3) := H
  have A13 := Aside0.mk A130
  clear A130
  simp only [Option.some.injEq, Prod.mk.injEq] at H
  obtain ⟨rfl, rfl, rfl⟩ := H
  go_enter Try.func18, Try.ntmps18
  go_wp2_with (first | ((with_reducible refine gate_callee (f := 11) rfl ?_); refine goesL_ (some 10) rfl rfl Try.func11 (by kernel_rfl) rfl #[.slice A0 l0.length c0] rfl (by (try simp only [List.map_toArray, List.map_cons, List.map_nil]); first | done | rfl | (simp only [List.length_drop, List.length_take]; rfl)) ?_; (with_reducible refine (fippleref08_CheckRack.calls k _ _ l0 t171 _ ?side1 ?side2 A3.out).mono ?_); (case side1 => repeat (first | exact HR0.out | (with_reducible refine Kd.C_alloc ?_ _) | (with_reducible refine Kd.C_drewN ?_ _) | (with_reducible refine Kd.C_drew ?_))); (case side2 => exact HC0.out); rintro e w14 ⟨rfl, hb⟩; refine ⟨_, rfl, ?_⟩; have n0_ := Aside0.mk (below_step (by repeat (first | (with_reducible first | exact HB.out | apply below_alloc | apply pw_below_drewN | apply below_drew1) | exact HB.out)) hb); clear HB; have HB := n0_; clear n0_; (try clear hb); (try clear hb2); (try clear hk); (try clear hi)) | ((with_reducible refine gate_callee (f := 11) rfl ?_); refine goesL_ (some 13) rfl rfl Try.func11 (by kernel_rfl) rfl #[.slice A0 l0.length c0] rfl (by (try simp only [List.map_toArray, List.map_cons, List.map_nil]); first | done | rfl | (simp only [List.length_drop, List.length_take]; rfl)) ?_; (with_reducible refine (fippleref08_CheckRack.calls k _ _ l0 t172 _ ?side1 ?side2 A13.out).mono ?_); (case side1 => repeat (first | exact (Kd.C_below HR0.out HB.out) | (with_reducible refine Kd.C_alloc ?_ _) | (with_reducible refine Kd.C_drewN ?_ _) | (with_reducible refine Kd.C_drew ?_))); (case side2 => exact HC0.out); rintro e w15 ⟨rfl, hb⟩; refine ⟨_, rfl, ?_⟩; have n0_ := Aside0.mk (below_step (by repeat (first | (with_reducible first | exact HB.out | apply below_alloc | apply pw_below_drewN | apply below_drew1) | exact HB.out)) hb); clear HB; have HB := n0_; clear n0_; (try clear hb); (try clear hb2); (try clear hk); (try clear hi)))
  go_ret3
  exact ⟨_, by first | rfl | (simp [errW_none, errW_some] <;> rfl) | (simp [*, errW_none, errW_some] <;> rfl), by first | exact Kd.S_nil _ _ _ _ _ | exact Kd.N_nil _ _ _ _ _ | exact Kd.V_nil _ _ _ _ _ | exact Kd.Q_nil _ _ _ _ _ | exact Kd.R_nil _ _ _ _ _, by repeat (first | (with_reducible first | exact HB.out | apply below_alloc | apply pw_below_drewN | apply below_drew1) | exact HB.out)⟩

-- BY HAND: function 42 (rack_within)

end Go.Proofs.Ytpbemjdaanlaoaa.Pr
