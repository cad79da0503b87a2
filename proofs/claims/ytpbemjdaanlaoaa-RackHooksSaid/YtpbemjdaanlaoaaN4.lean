/- Lemmas for the laws of rack: RF, H1, F1, F7. -/
import Derived.Test.YtpbemjdaanlaoaaPr0
import Derived.Test.YtpbemjdaanlaoaaPr1
import Derived.Test.YtpbemjdaanlaoaaN2
import Derived.Test.YtpbemjdaanlaoaaRE
import Derived.Test.YtpbemjdaanlaoaaN3
import Derived.Test.YtpbemjdaanlaoaaN1
set_option linter.unusedVariables false
set_option linter.unusedSimpArgs false
/- Printed out of the translation by the kit's print.py: contracts of fippleref08_CheckOrder. -/
namespace Go.Proofs.Ytpbemjdaanlaoaa.Pr
open Go.RowKit Go.Proofs.YtpbemjdaanlaoaaW.PrintWords Go.Proofs.YtpbemjdaanlaoaaW.PrintLast Go.Proofs.YtpbemjdaanlaoaaW.PrintMore
attribute [local go_sem] max2_int min2_int max_two min_two max_three min_three max_four min_four   -- for this text's walks alone
set_option linter.unusedVariables false
set_option linter.unusedSimpArgs false
/-! ### fippleref08_CheckOrder: function 13 -/
mutual
def fippleref08_CheckOrder.l0 : Nat → List (List Int) → List Int → Int → Option (Int)
 | 0, _, _, _ => none
 | k + 1, x0, x3, x4 => if x4 < (x3.length : Int) then (if 0 ≤ x4 then (if (rd x3 x4) < 1 then (some 3) else (if (rd x3 x4) > (x3.length : Int) then (some 3) else (fippleref08_CheckOrder.l0 k x0 x3 (wrap64 (x4 + 1))))) else (none)) else (fippleref08_CheckOrder.l1 k x0 x3 0)
def fippleref08_CheckOrder.l1 : Nat → List (List Int) → List Int → Int → Option (Int)
 | 0, _, _, _ => none
 | k + 1, x0, x3, x5 => if x5 < (x3.length : Int) then (if 0 ≤ x5 then (if x5 ≤ (x3.length : Int) then ((fippleref08_Has.f k (x3.take (x5 : Int).toNat) (rd x3 x5)).bind fun t535 => (if t535 = true then (some 11) else (fippleref08_CheckOrder.l1 k x0 x3 (wrap64 (x5 + 1))))) else (none)) else (none)) else ((fippleref08_shaped.f k x0).bind fun t536 => (if t536 = true then ((fippleref08_increasing.f k x0 1).bind fun t537 => (if t537 = true then (some 0) else (some 22))) else (some 22)))
end
def fippleref08_CheckOrder.f (k : Nat) (l0 : List (List Int)) : Option (Int) := (fippleref08_all.f k l0).bind fun t525 => (if (t525.length : Int) > 12 then (some 6) else (fippleref08_CheckOrder.l0 k l0 t525 0))
theorem fippleref08_CheckOrder.mono_l : ∀ k, (∀ y0 y1 y2, LeO (fippleref08_CheckOrder.l0 k y0 y1 y2) (fippleref08_CheckOrder.l0 (k + 1) y0 y1 y2)) ∧ (∀ y0 y1 y2, LeO (fippleref08_CheckOrder.l1 k y0 y1 y2) (fippleref08_CheckOrder.l1 (k + 1) y0 y1 y2))
 | 0 => ⟨fun _ _ _ r h => by simp [fippleref08_CheckOrder.l0] at h, fun _ _ _ r h => by simp [fippleref08_CheckOrder.l1] at h⟩
 | k + 1 => by
  obtain ⟨ih0, ih1⟩ := fippleref08_CheckOrder.mono_l k
  refine ⟨?_, ?_⟩
  ·
   intro y0 y1 y2
   unfold fippleref08_CheckOrder.l0
   repeat' first
   | (with_reducible exact ih0 _ _ _)
   | (with_reducible exact ih1 _ _ _)
   | (with_reducible exact fippleref08_Has.mono _ _ _)
   | (with_reducible exact fippleref08_all.mono _ _)
   | (with_reducible exact fippleref08_increasing.mono _ _ _)
   | (with_reducible exact fippleref08_shaped.mono _ _)
   | (with_reducible exact LeO.refl _)
   | (with_reducible exact LeO.none _)
   | (with_reducible refine LeO.ite ?_ ?_)
   | (with_reducible refine LeO.bind ?_ (fun _ => ?_))
   | exact ih0 _ _ _
   | exact ih1 _ _ _
   | exact fippleref08_Has.mono _ _ _
   | exact fippleref08_all.mono _ _
   | exact fippleref08_increasing.mono _ _ _
   | exact fippleref08_shaped.mono _ _
   | exact LeO.none _
   | refine LeO.ite ?_ ?_
   | refine LeO.bind ?_ (fun _ => ?_)
  ·
   intro y0 y1 y2
   unfold fippleref08_CheckOrder.l1
   repeat' first
   | (with_reducible exact ih0 _ _ _)
   | (with_reducible exact ih1 _ _ _)
   | (with_reducible exact fippleref08_Has.mono _ _ _)
   | (with_reducible exact fippleref08_all.mono _ _)
   | (with_reducible exact fippleref08_increasing.mono _ _ _)
   | (with_reducible exact fippleref08_shaped.mono _ _)
   | (with_reducible exact LeO.refl _)
   | (with_reducible exact LeO.none _)
   | (with_reducible refine LeO.ite ?_ ?_)
   | (with_reducible refine LeO.bind ?_ (fun _ => ?_))
   | exact ih0 _ _ _
   | exact ih1 _ _ _
   | exact fippleref08_Has.mono _ _ _
   | exact fippleref08_all.mono _ _
   | exact fippleref08_increasing.mono _ _ _
   | exact fippleref08_shaped.mono _ _
   | exact LeO.none _
   | refine LeO.ite ?_ ?_
   | refine LeO.bind ?_ (fun _ => ?_)
theorem fippleref08_CheckOrder.mono : ∀ a0 k, LeO (fippleref08_CheckOrder.f k a0) (fippleref08_CheckOrder.f (k + 1) a0) := by
 intro a0 k
 obtain ⟨ih0, ih1⟩ := fippleref08_CheckOrder.mono_l k
 unfold fippleref08_CheckOrder.f
 repeat' first
   | (with_reducible exact ih0 _ _ _)
   | (with_reducible exact ih1 _ _ _)
   | (with_reducible exact fippleref08_Has.mono _ _ _)
   | (with_reducible exact fippleref08_all.mono _ _)
   | (with_reducible exact fippleref08_increasing.mono _ _ _)
   | (with_reducible exact fippleref08_shaped.mono _ _)
   | (with_reducible exact LeO.refl _)
   | (with_reducible exact LeO.none _)
   | (with_reducible refine LeO.ite ?_ ?_)
   | (with_reducible refine LeO.bind ?_ (fun _ => ?_))
   | exact ih0 _ _ _
   | exact ih1 _ _ _
   | exact fippleref08_Has.mono _ _ _
   | exact fippleref08_all.mono _ _
   | exact fippleref08_increasing.mono _ _ _
   | exact fippleref08_shaped.mono _ _
   | exact LeO.none _
   | refine LeO.ite ?_ ?_
   | refine LeO.bind ?_ (fun _ => ?_)
set_option maxHeartbeats 8000000 in
set_option maxRecDepth 100000 in
theorem fippleref08_CheckOrder.calls (k : Nat) (A0 : Option Addr) (c0 : Nat) (l0 : List (List Int)) (r : Int) (w : World) (hr0 : Kd.C (Kd.slice 3 (Kd.int .i64)) w A0 l0.length l0) (hc0 : l0.length ≤ c0) (h : fippleref08_CheckOrder.f k l0 = some r) :
  Calls Try.prog 13 #[.slice A0 l0.length c0] w fun e w' => e = .returned (.int .i64 r) ∧ Below w.heap.size w w' := by
 have HR0 := Aside0.mk hr0
 have HC0 := Aside0.mk hc0
 clear hr0 hc0
 have HB := Aside0.mk (Below.refl w.heap.size w)
 have H : ((fippleref08_all.f k l0).bind fun t525 => (if (t525.length : Int) > 12 then (some 6) else (fippleref08_CheckOrder.l0 k l0 t525 0))) = some r := h
 clear h
 replace H := Option.bind_eq_some_iff.mp H
 obtain ⟨t525, A20, H⟩ := H
 replace H : (if (t525.length : Int) > 12 then (some 6) else (fippleref08_CheckOrder.l0 k l0 t525 0)) = some r := H
 have A2 := Aside0.mk A20
 clear A20
 by_cases c3 : (t525.length : Int) > 12
 ·
  rw [if_pos c3] at H
  have c3b0 : decide (12 < (t525.length : Int)) = true := decide_eq_true c3
  have c3b1 : decide (12 < t525.length) = true := decide_eq_true (by omega)
  clear c3
  obtain rfl := Option.some.inj H
  go_enter Try.func13, Try.ntmps13
  go_wp2_with (first | (go_at_call 45; (with_reducible refine (fippleref08_all.calls k _ _ l0 t525 _ ?side1 ?side2 A2.out).mono ?_); (case side1 => repeat (first | exact HR0.out | (with_reducible refine Kd.C_alloc ?_ _) | (with_reducible refine Kd.C_drewN ?_ _) | (with_reducible refine Kd.C_drew ?_))); (case side2 => exact HC0.out); rintro e w4 ⟨v526, rfl, ho0, hb⟩; have n0_ := Aside0.mk (Kd.R_lower ho0 (below_size (by repeat (first | (with_reducible first | exact HB.out | apply below_alloc | apply pw_below_drewN | apply below_drew1) | exact HB.out)))); have n1_ := Aside0.mk (below_step (by repeat (first | (with_reducible first | exact HB.out | apply below_alloc | apply pw_below_drewN | apply below_drew1) | exact HB.out)) hb); clear HB; have HO527 := n0_; have HB := n1_; clear n0_ n1_; (try clear hb); (try clear hb2); (try clear hk); (try clear hi); (try clear ho0); obtain ⟨Ao5, co5, eo5⟩ := Kd.R_slice HO527.out; subst eo5))
  repeat (go_quiet (first | (go_at_call 45; (with_reducible refine (fippleref08_all.calls k _ _ l0 t525 _ ?side1 ?side2 A2.out).mono ?_); (case side1 => repeat (first | exact HR0.out | (with_reducible refine Kd.C_alloc ?_ _) | (with_reducible refine Kd.C_drewN ?_ _) | (with_reducible refine Kd.C_drew ?_))); (case side2 => exact HC0.out); rintro e w4 ⟨v526, rfl, ho0, hb⟩; have n0_ := Aside0.mk (Kd.R_lower ho0 (below_size (by repeat (first | (with_reducible first | exact HB.out | apply below_alloc | apply pw_below_drewN | apply below_drew1) | exact HB.out)))); have n1_ := Aside0.mk (below_step (by repeat (first | (with_reducible first | exact HB.out | apply below_alloc | apply pw_below_drewN | apply below_drew1) | exact HB.out)) hb); clear HB; have HO527 := n0_; have HB := n1_; clear n0_ n1_; (try clear hb); (try clear hb2); (try clear hk); (try clear hi); (try clear ho0); obtain ⟨Ao5, co5, eo5⟩ := Kd.R_slice HO527.out; subst eo5)); try go_wp2_with (first | (go_at_call 45; (with_reducible refine (fippleref08_all.calls k _ _ l0 t525 _ ?side1 ?side2 A2.out).mono ?_); (case side1 => repeat (first | exact HR0.out | (with_reducible refine Kd.C_alloc ?_ _) | (with_reducible refine Kd.C_drewN ?_ _) | (with_reducible refine Kd.C_drew ?_))); (case side2 => exact HC0.out); rintro e w4 ⟨v526, rfl, ho0, hb⟩; have n0_ := Aside0.mk (Kd.R_lower ho0 (below_size (by repeat (first | (with_reducible first | exact HB.out | apply below_alloc | apply pw_below_drewN | apply below_drew1) | exact HB.out)))); have n1_ := Aside0.mk (below_step (by repeat (first | (with_reducible first | exact HB.out | apply below_alloc | apply pw_below_drewN | apply below_drew1) | exact HB.out)) hb); clear HB; have HO527 := n0_; have HB := n1_; clear n0_ n1_; (try clear hb); (try clear hb2); (try clear hk); (try clear hi); (try clear ho0); obtain ⟨Ao5, co5, eo5⟩ := Kd.R_slice HO527.out; subst eo5)))
  go_ret
  exact ⟨by first | rfl | (simp [errW_none, errW_some] <;> rfl) | (simp [*, errW_none, errW_some] <;> rfl), by repeat (first | (with_reducible first | exact HB.out | apply below_alloc | apply pw_below_drewN | apply below_drew1) | exact HB.out)⟩
 ·
  rw [if_neg c3] at H
  have c3b0 : decide (12 < (t525.length : Int)) = false := decide_eq_false c3
  have c3b1 : decide (12 < t525.length) = false := decide_eq_false (by omega)
  clear c3
  have H' := Aside0.mk H
  clear H
  go_enter Try.func13, Try.ntmps13
  go_wp2_with (first | (go_at_call 45; (with_reducible refine (fippleref08_all.calls k _ _ l0 t525 _ ?side1 ?side2 A2.out).mono ?_); (case side1 => repeat (first | exact HR0.out | (with_reducible refine Kd.C_alloc ?_ _) | (with_reducible refine Kd.C_drewN ?_ _) | (with_reducible refine Kd.C_drew ?_))); (case side2 => exact HC0.out); rintro e w6 ⟨v526, rfl, ho0, hb⟩; have n0_ := Aside0.mk (Kd.R_lower ho0 (below_size (by repeat (first | (with_reducible first | exact HB.out | apply below_alloc | apply pw_below_drewN | apply below_drew1) | exact HB.out)))); have n1_ := Aside0.mk (below_step (by repeat (first | (with_reducible first | exact HB.out | apply below_alloc | apply pw_below_drewN | apply below_drew1) | exact HB.out)) hb); clear HB; have HO527 := n0_; have HB := n1_; clear n0_ n1_; (try clear hb); (try clear hb2); (try clear hk); (try clear hi); (try clear ho0); obtain ⟨Ao7, co7, eo7⟩ := Kd.R_slice HO527.out; subst eo7))
  repeat (go_quiet (first | (go_at_call 45; (with_reducible refine (fippleref08_all.calls k _ _ l0 t525 _ ?side1 ?side2 A2.out).mono ?_); (case side1 => repeat (first | exact HR0.out | (with_reducible refine Kd.C_alloc ?_ _) | (with_reducible refine Kd.C_drewN ?_ _) | (with_reducible refine Kd.C_drew ?_))); (case side2 => exact HC0.out); rintro e w6 ⟨v526, rfl, ho0, hb⟩; have n0_ := Aside0.mk (Kd.R_lower ho0 (below_size (by repeat (first | (with_reducible first | exact HB.out | apply below_alloc | apply pw_below_drewN | apply below_drew1) | exact HB.out)))); have n1_ := Aside0.mk (below_step (by repeat (first | (with_reducible first | exact HB.out | apply below_alloc | apply pw_below_drewN | apply below_drew1) | exact HB.out)) hb); clear HB; have HO527 := n0_; have HB := n1_; clear n0_ n1_; (try clear hb); (try clear hb2); (try clear hk); (try clear hi); (try clear ho0); obtain ⟨Ao7, co7, eo7⟩ := Kd.R_slice HO527.out; subst eo7)); try go_wp2_with (first | (go_at_call 45; (with_reducible refine (fippleref08_all.calls k _ _ l0 t525 _ ?side1 ?side2 A2.out).mono ?_); (case side1 => repeat (first | exact HR0.out | (with_reducible refine Kd.C_alloc ?_ _) | (with_reducible refine Kd.C_drewN ?_ _) | (with_reducible refine Kd.C_drew ?_))); (case side2 => exact HC0.out); rintro e w6 ⟨v526, rfl, ho0, hb⟩; have n0_ := Aside0.mk (Kd.R_lower ho0 (below_size (by repeat (first | (with_reducible first | exact HB.out | apply below_alloc | apply pw_below_drewN | apply below_drew1) | exact HB.out)))); have n1_ := Aside0.mk (below_step (by repeat (first | (with_reducible first | exact HB.out | apply below_alloc | apply pw_below_drewN | apply below_drew1) | exact HB.out)) hb); clear HB; have HO527 := n0_; have HB := n1_; clear n0_ n1_; (try clear hb); (try clear hb2); (try clear hk); (try clear hi); (try clear ho0); obtain ⟨Ao7, co7, eo7⟩ := Kd.R_slice HO527.out; subst eo7)))
  go_loopg [4] k (fun kq v4 w' => ∃ (x4_1 : Int), v4 = .int .i64 x4_1 ∧ Aside0 (fippleref08_CheckOrder.l0 kq l0 t525 x4_1 = some r) ∧ Aside0 (kq ≤ k) ∧ Aside0 (Kd.R (Kd.int .i64) 3 w' w.heap.size (fun _ => True) (.slice Ao7 t525.length co7) t525) ∧ Aside0 (Below w.heap.size w w'))
  case atStart => exact ⟨(0), (by first | rfl | (simp; done) | (simp [*]; done)), H', ⟨Nat.le_refl _⟩, ⟨by (with_reducible repeat (first | apply Kd.R_alloc | apply Kd.R_drewN | apply Kd.R_drew)); exact HO527.out⟩, ⟨by repeat (first | (with_reducible first | exact HB.out | apply below_alloc | apply pw_below_drewN | apply below_drew1) | exact HB.out)⟩⟩
  case round =>
   clear H'
   try clear c1
   try clear p2
   try clear c3
   try clear c3b0
   try clear c3b1
   obtain ⟨x4_1, rfl, HA, HK1, HO_3, HB⟩ := hrel
   cases gk with
   | zero => exact absurd HA.out (by simp [fippleref08_CheckOrder.l0])
   | succ k1 =>
    have H := HA.out
    clear HA
    simp only [fippleref08_CheckOrder.l0] at H
    by_cases c8 : x4_1 < (t525.length : Int)
    ·
     rw [if_pos c8] at H
     have c8b0 : decide (x4_1 < (t525.length : Int)) = true := decide_eq_true c8
     clear c8
     by_cases c9 : 0 ≤ x4_1
     ·
      rw [if_pos c9] at H
      have c9b0 : decide (0 ≤ x4_1) = true := decide_eq_true c9
      clear c9
      by_cases c10 : (rd t525 x4_1) < 1
      ·
       rw [if_pos c10] at H
       have c10b0 : decide ((rd t525 x4_1) < 1) = true := decide_eq_true c10
       clear c10
       obtain rfl := Option.some.inj H
       have p528 : 0 ≤ (x4_1 : Int) := of_decide_eq_true (by first | (with_reducible assumption) | assumption)
       have q528 : x4_1 < (t525.length : Int) := of_decide_eq_true (by first | (with_reducible assumption) | assumption)
       obtain ⟨ad528, e528, hx528_0⟩ := Kd.at_int (Kd.R_reads' HO_3.out).2.2 x4_1 p528 q528
       cases e528
       replace p528 := eq_true p528
       replace q528 := eq_true q528
       go_wp2
       repeat (go_quiet (fail); try go_wp2)
       go_ret
       exact ⟨by first | rfl | (simp [errW_none, errW_some] <;> rfl) | (simp [*, errW_none, errW_some] <;> rfl), by repeat (first | (with_reducible first | exact HB.out | apply below_alloc | apply pw_below_drewN | apply below_drew1) | exact HB.out)⟩
      ·
       rw [if_neg c10] at H
       have c10b0 : decide ((rd t525 x4_1) < 1) = false := decide_eq_false c10
       clear c10
       by_cases c11 : (rd t525 x4_1) > (t525.length : Int)
       ·
        rw [if_pos c11] at H
        have c11b0 : decide ((t525.length : Int) < (rd t525 x4_1)) = true := decide_eq_true c11
        clear c11
        obtain rfl := Option.some.inj H
        have p528 : 0 ≤ (x4_1 : Int) := of_decide_eq_true (by first | (with_reducible assumption) | assumption)
        have q528 : x4_1 < (t525.length : Int) := of_decide_eq_true (by first | (with_reducible assumption) | assumption)
        obtain ⟨ad528, e528, hx528_0⟩ := Kd.at_int (Kd.R_reads' HO_3.out).2.2 x4_1 p528 q528
        cases e528
        replace p528 := eq_true p528
        replace q528 := eq_true q528
        have p529 : 0 ≤ (x4_1 : Int) := of_decide_eq_true (by first | (with_reducible assumption) | assumption)
        have q529 : x4_1 < (t525.length : Int) := of_decide_eq_true (by first | (with_reducible assumption) | assumption)
        obtain ⟨ad529, e529, hx529_0⟩ := Kd.at_int (Kd.R_reads' HO_3.out).2.2 x4_1 p529 q529
        obtain rfl : ad528 = ad529 := (by injection e529)
        replace p529 := eq_true p529
        replace q529 := eq_true q529
        go_wp2
        repeat (go_quiet (fail); try go_wp2)
        go_ret
        exact ⟨by first | rfl | (simp [errW_none, errW_some] <;> rfl) | (simp [*, errW_none, errW_some] <;> rfl), by repeat (first | (with_reducible first | exact HB.out | apply below_alloc | apply pw_below_drewN | apply below_drew1) | exact HB.out)⟩
       ·
        rw [if_neg c11] at H
        have c11b0 : decide ((t525.length : Int) < (rd t525 x4_1)) = false := decide_eq_false c11
        clear c11
        have H' := Aside0.mk H
        clear H
        have p528 : 0 ≤ (x4_1 : Int) := of_decide_eq_true (by first | (with_reducible assumption) | assumption)
        have q528 : x4_1 < (t525.length : Int) := of_decide_eq_true (by first | (with_reducible assumption) | assumption)
        obtain ⟨ad528, e528, hx528_0⟩ := Kd.at_int (Kd.R_reads' HO_3.out).2.2 x4_1 p528 q528
        cases e528
        replace p528 := eq_true p528
        replace q528 := eq_true q528
        have p529 : 0 ≤ (x4_1 : Int) := of_decide_eq_true (by first | (with_reducible assumption) | assumption)
        have q529 : x4_1 < (t525.length : Int) := of_decide_eq_true (by first | (with_reducible assumption) | assumption)
        obtain ⟨ad529, e529, hx529_0⟩ := Kd.at_int (Kd.R_reads' HO_3.out).2.2 x4_1 p529 q529
        obtain rfl : ad528 = ad529 := (by injection e529)
        replace p529 := eq_true p529
        replace q529 := eq_true q529
        go_wp2
        repeat (go_quiet (fail); try go_wp2)
        go_roundg k1
        case measure => have := HK1.out; omega
        case rel => exact ⟨(wrap64 (x4_1 + 1)), (by first | rfl | (simp; done) | (simp [*]; done)), H', ⟨by have := HK1.out; omega⟩, ⟨by (with_reducible repeat (first | apply Kd.R_alloc | apply Kd.R_drewN | apply Kd.R_drew)); exact HO_3.out⟩, ⟨by repeat (first | (with_reducible first | exact HB.out | apply below_alloc | apply pw_below_drewN | apply below_drew1) | exact HB.out)⟩⟩
     ·
      rw [if_neg c9] at H
      exact absurd H (by simp)
    ·
     rw [if_neg c8] at H
     have c8b0 : decide (x4_1 < (t525.length : Int)) = false := decide_eq_false c8
     clear c8
     have H' := Aside0.mk H
     clear H
     go_wp2
     repeat (go_quiet (fail); try go_wp2)
     go_loopg [5] k1 (fun kq v5 w' => ∃ (x5_2 : Int), v5 = .int .i64 x5_2 ∧ Aside0 (fippleref08_CheckOrder.l1 kq l0 t525 x5_2 = some r) ∧ Aside0 (kq ≤ k1) ∧ Aside0 (Kd.R (Kd.int .i64) 3 w' w.heap.size (fun _ => True) (.slice Ao7 t525.length co7) t525) ∧ Aside0 (Below w.heap.size w w'))
     case atStart => exact ⟨(0), (by first | rfl | (simp; done) | (simp [*]; done)), H', ⟨Nat.le_refl _⟩, ⟨by (with_reducible repeat (first | apply Kd.R_alloc | apply Kd.R_drewN | apply Kd.R_drew)); exact HO_3.out⟩, ⟨by repeat (first | (with_reducible first | exact HB.out | apply below_alloc | apply pw_below_drewN | apply below_drew1) | exact HB.out)⟩⟩
     case round =>
      clear H'
      try clear c1
      try clear p2
      try clear c3
      try clear c3b0
      try clear c3b1
      try clear p5
      try clear q5
      try clear hx5
      try clear p6
      try clear c8
      try clear c8b0
      try clear c9
      try clear c9b0
      try clear c10
      try clear c10b0
      try clear c11
      try clear c11b0
      try clear hx528_0
      try clear hx529_0
      try clear p2
      try clear p528
      try clear p529
      try clear q528
      try clear q529
      obtain ⟨x5_2, rfl, HA, HK2, HO_3, HB⟩ := hrel
      cases gk with
      | zero => exact absurd HA.out (by simp [fippleref08_CheckOrder.l1])
      | succ k2 =>
       have H := HA.out
       clear HA
       simp only [fippleref08_CheckOrder.l1] at H
       by_cases c12 : x5_2 < (t525.length : Int)
       ·
        rw [if_pos c12] at H
        have c12b0 : decide (x5_2 < (t525.length : Int)) = true := decide_eq_true c12
        clear c12
        by_cases c13 : 0 ≤ x5_2
        ·
         rw [if_pos c13] at H
         have c13b0 := eq_true c13
         have c13b1 : decide (0 ≤ x5_2) = true := decide_eq_true c13
         clear c13
         by_cases c14 : x5_2 ≤ (t525.length : Int)
         ·
          rw [if_pos c14] at H
          have c14b0 := eq_true c14
          have c14b1 : decide (x5_2 ≤ (t525.length : Int)) = true := decide_eq_true c14
          clear c14
          obtain ⟨y530, hy530⟩ : ∃ y_ : List Int, y_ = (t525.take (x5_2 : Int).toNat) := ⟨_, rfl⟩
          replace H : ((fippleref08_Has.f k2 y530 (rd t525 x5_2)).bind fun t535 => (if t535 = true then (some 11) else (fippleref08_CheckOrder.l1 k2 l0 t525 (wrap64 (x5_2 + 1))))) = some r := by first | (rw [hy530]; with_reducible exact H) | (have H2_ := (Option.bind_some _ _).symm.trans H; rw [hy530]; with_reducible exact H2_) | (have H2_ := (Option.bind_some _ _).symm.trans H; with_reducible exact H2_) | with_reducible exact H | (rw [hy530]; exact H) | exact H
          have Ny530 := Aside0.mk hy530
          clear hy530
          replace H := Option.bind_eq_some_iff.mp H
          obtain ⟨t535, A150, H⟩ := H
          replace H : (if t535 = true then (some 11) else (fippleref08_CheckOrder.l1 k2 l0 t525 (wrap64 (x5_2 + 1)))) = some r := H
          have A15 := Aside0.mk A150
          clear A150
          by_cases c16 : t535 = true
          ·
           subst c16
           have H1 : (some 11) = some r := by rw [if_pos rfl] at H; exact H
           clear H
           have H := H1
           clear H1
           obtain rfl := Option.some.inj H
           have q17 : (x5_2 : Int) ≤ ((t525.length : Int) : Int) := of_decide_eq_true (by first | (with_reducible assumption) | assumption)
           obtain ⟨i017, hi017, _, hsz17, _⟩ := info_parts info3
           have hroom17 : t525.length ≤ co7 := (Kd.R_reads' HO_3.out).2.1
           have hC17 : Kd.C (Kd.int .i64) _ Ao7 t525.length t525 := (Kd.R_reads' HO_3.out).2.2
           have hcut17 := cut_to (P := Try.prog) 32 3 .i64 Try.underlying32 hi017 Ao7 t525.length co7 x5_2 (of_decide_eq_true (by first | (with_reducible assumption) | assumption)) q17 hroom17
           have hr17 := Kd.C_take (m := (x5_2 : Int).toNat) hC17 (by omega)
           have hy17 : y530.length = (x5_2 : Int).toNat := (by rw [Ny530.out, List.length_take]; omega)
           rw [← Ny530.out] at hr17
           rw [← hy17] at hcut17
           have HR533 := Aside0.mk hr17
           have HC533 := Aside0.mk (show y530.length ≤ co7 from by omega)
           clear hr17 hC17 hroom17 hi017 hsz17
           have KY17 := Aside0.mk hy17
           clear hy17
           have KL17 := Aside0.mk (show (x5_2 : Int).toNat ≤ t525.length from by omega)
           replace q17 := eq_true q17
           have p534 : 0 ≤ (x5_2 : Int) := of_decide_eq_true (by first | (with_reducible assumption) | assumption)
           have q534 : x5_2 < (t525.length : Int) := of_decide_eq_true (by first | (with_reducible assumption) | assumption)
           obtain ⟨ad534, e534, hx534_0⟩ := Kd.at_int (Kd.R_reads' HO_3.out).2.2 x5_2 p534 q534
           cases e534
           replace p534 := eq_true p534
           replace q534 := eq_true q534
           go_wp2_with (first | (go_at_call 50; (with_reducible refine (fippleref08_Has.calls k2 _ _ y530 (rd t525 x5_2) true _ ?side1 ?side2 A15.out).mono ?_); (case side1 => repeat (first | exact (by repeat (first | (with_reducible exact HR533.out) | (with_reducible refine Kd.C_alloc ?_ _) | (with_reducible refine Kd.C_drewN ?_ _) | (with_reducible refine Kd.C_drew ?_) | exact HR533.out)) | (with_reducible refine Kd.C_alloc ?_ _) | (with_reducible refine Kd.C_drewN ?_ _) | (with_reducible refine Kd.C_drew ?_))); (case side2 => exact HC533.out); rintro e w' ⟨rfl, ⟨nd, rfl⟩⟩; (try first | exact ⟨rfl, _, World.drewN_drewN _ _ _⟩ | exact ⟨rfl, _, Eq.trans (World.drewN_drewN _ _ _) (congrArg (World.drewN _) (Nat.add_assoc _ _ _))⟩)))
           repeat (go_quiet (first | (go_at_call 50; (with_reducible refine (fippleref08_Has.calls k2 _ _ y530 (rd t525 x5_2) true _ ?side1 ?side2 A15.out).mono ?_); (case side1 => repeat (first | exact (by repeat (first | (with_reducible exact HR533.out) | (with_reducible refine Kd.C_alloc ?_ _) | (with_reducible refine Kd.C_drewN ?_ _) | (with_reducible refine Kd.C_drew ?_) | exact HR533.out)) | (with_reducible refine Kd.C_alloc ?_ _) | (with_reducible refine Kd.C_drewN ?_ _) | (with_reducible refine Kd.C_drew ?_))); (case side2 => exact HC533.out); rintro e w' ⟨rfl, ⟨nd, rfl⟩⟩; (try first | exact ⟨rfl, _, World.drewN_drewN _ _ _⟩ | exact ⟨rfl, _, Eq.trans (World.drewN_drewN _ _ _) (congrArg (World.drewN _) (Nat.add_assoc _ _ _))⟩))); try go_wp2_with (first | (go_at_call 50; (with_reducible refine (fippleref08_Has.calls k2 _ _ y530 (rd t525 x5_2) true _ ?side1 ?side2 A15.out).mono ?_); (case side1 => repeat (first | exact (by repeat (first | (with_reducible exact HR533.out) | (with_reducible refine Kd.C_alloc ?_ _) | (with_reducible refine Kd.C_drewN ?_ _) | (with_reducible refine Kd.C_drew ?_) | exact HR533.out)) | (with_reducible refine Kd.C_alloc ?_ _) | (with_reducible refine Kd.C_drewN ?_ _) | (with_reducible refine Kd.C_drew ?_))); (case side2 => exact HC533.out); rintro e w' ⟨rfl, ⟨nd, rfl⟩⟩; (try first | exact ⟨rfl, _, World.drewN_drewN _ _ _⟩ | exact ⟨rfl, _, Eq.trans (World.drewN_drewN _ _ _) (congrArg (World.drewN _) (Nat.add_assoc _ _ _))⟩))))
           go_ret
           exact ⟨by first | rfl | (simp [errW_none, errW_some] <;> rfl) | (simp [*, errW_none, errW_some] <;> rfl), by repeat (first | (with_reducible first | exact HB.out | apply below_alloc | apply pw_below_drewN | apply below_drew1) | exact HB.out)⟩
          ·
           replace c16 := Bool.eq_false_iff.mpr c16
           subst c16
           have H1 : (fippleref08_CheckOrder.l1 k2 l0 t525 (wrap64 (x5_2 + 1))) = some r := by rw [if_neg (show ¬ (false = true) by decide)] at H; exact H
           clear H
           have H := H1
           clear H1
           have H' := Aside0.mk H
           clear H
           have q18 : (x5_2 : Int) ≤ ((t525.length : Int) : Int) := of_decide_eq_true (by first | (with_reducible assumption) | assumption)
           obtain ⟨i018, hi018, _, hsz18, _⟩ := info_parts info3
           have hroom18 : t525.length ≤ co7 := (Kd.R_reads' HO_3.out).2.1
           have hC18 : Kd.C (Kd.int .i64) _ Ao7 t525.length t525 := (Kd.R_reads' HO_3.out).2.2
           have hcut18 := cut_to (P := Try.prog) 32 3 .i64 Try.underlying32 hi018 Ao7 t525.length co7 x5_2 (of_decide_eq_true (by first | (with_reducible assumption) | assumption)) q18 hroom18
           have hr18 := Kd.C_take (m := (x5_2 : Int).toNat) hC18 (by omega)
           have hy18 : y530.length = (x5_2 : Int).toNat := (by rw [Ny530.out, List.length_take]; omega)
           rw [← Ny530.out] at hr18
           rw [← hy18] at hcut18
           have HR533 := Aside0.mk hr18
           have HC533 := Aside0.mk (show y530.length ≤ co7 from by omega)
           clear hr18 hC18 hroom18 hi018 hsz18
           have KY18 := Aside0.mk hy18
           clear hy18
           have KL18 := Aside0.mk (show (x5_2 : Int).toNat ≤ t525.length from by omega)
           replace q18 := eq_true q18
           have p534 : 0 ≤ (x5_2 : Int) := of_decide_eq_true (by first | (with_reducible assumption) | assumption)
           have q534 : x5_2 < (t525.length : Int) := of_decide_eq_true (by first | (with_reducible assumption) | assumption)
           obtain ⟨ad534, e534, hx534_0⟩ := Kd.at_int (Kd.R_reads' HO_3.out).2.2 x5_2 p534 q534
           cases e534
           replace p534 := eq_true p534
           replace q534 := eq_true q534
           go_wp2_with (first | (go_at_call 50; (with_reducible refine (fippleref08_Has.calls k2 _ _ y530 (rd t525 x5_2) false _ ?side1 ?side2 A15.out).mono ?_); (case side1 => repeat (first | exact (by repeat (first | (with_reducible exact HR533.out) | (with_reducible refine Kd.C_alloc ?_ _) | (with_reducible refine Kd.C_drewN ?_ _) | (with_reducible refine Kd.C_drew ?_) | exact HR533.out)) | (with_reducible refine Kd.C_alloc ?_ _) | (with_reducible refine Kd.C_drewN ?_ _) | (with_reducible refine Kd.C_drew ?_))); (case side2 => exact HC533.out); rintro e w' ⟨rfl, ⟨nd, rfl⟩⟩; (try first | exact ⟨rfl, _, World.drewN_drewN _ _ _⟩ | exact ⟨rfl, _, Eq.trans (World.drewN_drewN _ _ _) (congrArg (World.drewN _) (Nat.add_assoc _ _ _))⟩)))
           repeat (go_quiet (first | (go_at_call 50; (with_reducible refine (fippleref08_Has.calls k2 _ _ y530 (rd t525 x5_2) false _ ?side1 ?side2 A15.out).mono ?_); (case side1 => repeat (first | exact (by repeat (first | (with_reducible exact HR533.out) | (with_reducible refine Kd.C_alloc ?_ _) | (with_reducible refine Kd.C_drewN ?_ _) | (with_reducible refine Kd.C_drew ?_) | exact HR533.out)) | (with_reducible refine Kd.C_alloc ?_ _) | (with_reducible refine Kd.C_drewN ?_ _) | (with_reducible refine Kd.C_drew ?_))); (case side2 => exact HC533.out); rintro e w' ⟨rfl, ⟨nd, rfl⟩⟩; (try first | exact ⟨rfl, _, World.drewN_drewN _ _ _⟩ | exact ⟨rfl, _, Eq.trans (World.drewN_drewN _ _ _) (congrArg (World.drewN _) (Nat.add_assoc _ _ _))⟩))); try go_wp2_with (first | (go_at_call 50; (with_reducible refine (fippleref08_Has.calls k2 _ _ y530 (rd t525 x5_2) false _ ?side1 ?side2 A15.out).mono ?_); (case side1 => repeat (first | exact (by repeat (first | (with_reducible exact HR533.out) | (with_reducible refine Kd.C_alloc ?_ _) | (with_reducible refine Kd.C_drewN ?_ _) | (with_reducible refine Kd.C_drew ?_) | exact HR533.out)) | (with_reducible refine Kd.C_alloc ?_ _) | (with_reducible refine Kd.C_drewN ?_ _) | (with_reducible refine Kd.C_drew ?_))); (case side2 => exact HC533.out); rintro e w' ⟨rfl, ⟨nd, rfl⟩⟩; (try first | exact ⟨rfl, _, World.drewN_drewN _ _ _⟩ | exact ⟨rfl, _, Eq.trans (World.drewN_drewN _ _ _) (congrArg (World.drewN _) (Nat.add_assoc _ _ _))⟩))))
           go_roundg k2
           case measure => have := HK1.out; have := HK2.out; omega
           case rel => exact ⟨(wrap64 (x5_2 + 1)), (by first | rfl | (simp; done) | (simp [*]; done)), H', ⟨by have := HK1.out; have := HK2.out; omega⟩, ⟨by (with_reducible repeat (first | apply Kd.R_alloc | apply Kd.R_drewN | apply Kd.R_drew)); exact HO_3.out⟩, ⟨by repeat (first | (with_reducible first | exact HB.out | apply below_alloc | apply pw_below_drewN | apply below_drew1) | exact HB.out)⟩⟩
         ·
          rw [if_neg c14] at H
          exact absurd H (by simp)
        ·
         rw [if_neg c13] at H
         exact absurd H (by simp)
       ·
        rw [if_neg c12] at H
        have c12b0 : decide (x5_2 < (t525.length : Int)) = false := decide_eq_false c12
        clear c12
        replace H := Option.bind_eq_some_iff.mp H
        obtain ⟨t536, A190, H⟩ := H
        replace H : (if t536 = true then ((fippleref08_increasing.f k2 l0 1).bind fun t537 => (if t537 = true then (some 0) else (some 22))) else (some 22)) = some r := H
        have A19 := Aside0.mk A190
        clear A190
        by_cases c20 : t536 = true
        ·
         subst c20
         have H1 : ((fippleref08_increasing.f k2 l0 1).bind fun t537 => (if t537 = true then (some 0) else (some 22))) = some r := by rw [if_pos rfl] at H; exact H
         clear H
         have H := H1
         clear H1
         replace H := Option.bind_eq_some_iff.mp H
         obtain ⟨t537, A210, H⟩ := H
         replace H : (if t537 = true then (some 0) else (some 22)) = some r := H
         have A21 := Aside0.mk A210
         clear A210
         by_cases c22 : t537 = true
         ·
          subst c22
          have H1 : (some 0) = some r := by rw [if_pos rfl] at H; exact H
          clear H
          have H := H1
          clear H1
          obtain rfl := Option.some.inj H
          go_wp2_with (first | (go_at_call 46; (with_reducible refine (fippleref08_shaped.calls k2 _ _ l0 true _ ?side1 ?side2 A19.out).mono ?_); (case side1 => repeat (first | exact (Kd.C_below HR0.out HB.out) | (with_reducible refine Kd.C_alloc ?_ _) | (with_reducible refine Kd.C_drewN ?_ _) | (with_reducible refine Kd.C_drew ?_))); (case side2 => exact HC0.out); rintro e w' ⟨rfl, ⟨nd, rfl⟩⟩; (try first | exact ⟨rfl, _, World.drewN_drewN _ _ _⟩ | exact ⟨rfl, _, Eq.trans (World.drewN_drewN _ _ _) (congrArg (World.drewN _) (Nat.add_assoc _ _ _))⟩)) | (go_at_call 47; (with_reducible refine (fippleref08_increasing.calls k2 _ _ l0 1 true _ ?side1 ?side2 A21.out).mono ?_); (case side1 => repeat (first | exact (Kd.C_below HR0.out (by repeat (first | (with_reducible first | exact HB.out | apply below_alloc | apply pw_below_drewN | apply below_drew1) | exact HB.out))) | (with_reducible refine Kd.C_alloc ?_ _) | (with_reducible refine Kd.C_drewN ?_ _) | (with_reducible refine Kd.C_drew ?_))); (case side2 => exact HC0.out); rintro e w' ⟨rfl, ⟨nd, rfl⟩⟩; (try first | exact ⟨rfl, _, World.drewN_drewN _ _ _⟩ | exact ⟨rfl, _, Eq.trans (World.drewN_drewN _ _ _) (congrArg (World.drewN _) (Nat.add_assoc _ _ _))⟩)))
          repeat (go_quiet (first | (go_at_call 46; (with_reducible refine (fippleref08_shaped.calls k2 _ _ l0 true _ ?side1 ?side2 A19.out).mono ?_); (case side1 => repeat (first | exact (Kd.C_below HR0.out HB.out) | (with_reducible refine Kd.C_alloc ?_ _) | (with_reducible refine Kd.C_drewN ?_ _) | (with_reducible refine Kd.C_drew ?_))); (case side2 => exact HC0.out); rintro e w' ⟨rfl, ⟨nd, rfl⟩⟩; (try first | exact ⟨rfl, _, World.drewN_drewN _ _ _⟩ | exact ⟨rfl, _, Eq.trans (World.drewN_drewN _ _ _) (congrArg (World.drewN _) (Nat.add_assoc _ _ _))⟩)) | (go_at_call 47; (with_reducible refine (fippleref08_increasing.calls k2 _ _ l0 1 true _ ?side1 ?side2 A21.out).mono ?_); (case side1 => repeat (first | exact (Kd.C_below HR0.out (by repeat (first | (with_reducible first | exact HB.out | apply below_alloc | apply pw_below_drewN | apply below_drew1) | exact HB.out))) | (with_reducible refine Kd.C_alloc ?_ _) | (with_reducible refine Kd.C_drewN ?_ _) | (with_reducible refine Kd.C_drew ?_))); (case side2 => exact HC0.out); rintro e w' ⟨rfl, ⟨nd, rfl⟩⟩; (try first | exact ⟨rfl, _, World.drewN_drewN _ _ _⟩ | exact ⟨rfl, _, Eq.trans (World.drewN_drewN _ _ _) (congrArg (World.drewN _) (Nat.add_assoc _ _ _))⟩))); try go_wp2_with (first | (go_at_call 46; (with_reducible refine (fippleref08_shaped.calls k2 _ _ l0 true _ ?side1 ?side2 A19.out).mono ?_); (case side1 => repeat (first | exact (Kd.C_below HR0.out HB.out) | (with_reducible refine Kd.C_alloc ?_ _) | (with_reducible refine Kd.C_drewN ?_ _) | (with_reducible refine Kd.C_drew ?_))); (case side2 => exact HC0.out); rintro e w' ⟨rfl, ⟨nd, rfl⟩⟩; (try first | exact ⟨rfl, _, World.drewN_drewN _ _ _⟩ | exact ⟨rfl, _, Eq.trans (World.drewN_drewN _ _ _) (congrArg (World.drewN _) (Nat.add_assoc _ _ _))⟩)) | (go_at_call 47; (with_reducible refine (fippleref08_increasing.calls k2 _ _ l0 1 true _ ?side1 ?side2 A21.out).mono ?_); (case side1 => repeat (first | exact (Kd.C_below HR0.out (by repeat (first | (with_reducible first | exact HB.out | apply below_alloc | apply pw_below_drewN | apply below_drew1) | exact HB.out))) | (with_reducible refine Kd.C_alloc ?_ _) | (with_reducible refine Kd.C_drewN ?_ _) | (with_reducible refine Kd.C_drew ?_))); (case side2 => exact HC0.out); rintro e w' ⟨rfl, ⟨nd, rfl⟩⟩; (try first | exact ⟨rfl, _, World.drewN_drewN _ _ _⟩ | exact ⟨rfl, _, Eq.trans (World.drewN_drewN _ _ _) (congrArg (World.drewN _) (Nat.add_assoc _ _ _))⟩))))
          go_ret
          exact ⟨by first | rfl | (simp [errW_none, errW_some] <;> rfl) | (simp [*, errW_none, errW_some] <;> rfl), by repeat (first | (with_reducible first | exact HB.out | apply below_alloc | apply pw_below_drewN | apply below_drew1) | exact HB.out)⟩
         ·
          replace c22 := Bool.eq_false_iff.mpr c22
          subst c22
          have H1 : (some 22) = some r := by rw [if_neg (show ¬ (false = true) by decide)] at H; exact H
          clear H
          have H := H1
          clear H1
          obtain rfl := Option.some.inj H
          go_wp2_with (first | (go_at_call 46; (with_reducible refine (fippleref08_shaped.calls k2 _ _ l0 true _ ?side1 ?side2 A19.out).mono ?_); (case side1 => repeat (first | exact (Kd.C_below HR0.out HB.out) | (with_reducible refine Kd.C_alloc ?_ _) | (with_reducible refine Kd.C_drewN ?_ _) | (with_reducible refine Kd.C_drew ?_))); (case side2 => exact HC0.out); rintro e w' ⟨rfl, ⟨nd, rfl⟩⟩; (try first | exact ⟨rfl, _, World.drewN_drewN _ _ _⟩ | exact ⟨rfl, _, Eq.trans (World.drewN_drewN _ _ _) (congrArg (World.drewN _) (Nat.add_assoc _ _ _))⟩)) | (go_at_call 47; (with_reducible refine (fippleref08_increasing.calls k2 _ _ l0 1 false _ ?side1 ?side2 A21.out).mono ?_); (case side1 => repeat (first | exact (Kd.C_below HR0.out (by repeat (first | (with_reducible first | exact HB.out | apply below_alloc | apply pw_below_drewN | apply below_drew1) | exact HB.out))) | (with_reducible refine Kd.C_alloc ?_ _) | (with_reducible refine Kd.C_drewN ?_ _) | (with_reducible refine Kd.C_drew ?_))); (case side2 => exact HC0.out); rintro e w' ⟨rfl, ⟨nd, rfl⟩⟩; (try first | exact ⟨rfl, _, World.drewN_drewN _ _ _⟩ | exact ⟨rfl, _, Eq.trans (World.drewN_drewN _ _ _) (congrArg (World.drewN _) (Nat.add_assoc _ _ _))⟩)))
          repeat (go_quiet (first | (go_at_call 46; (with_reducible refine (fippleref08_shaped.calls k2 _ _ l0 true _ ?side1 ?side2 A19.out).mono ?_); (case side1 => repeat (first | exact (Kd.C_below HR0.out HB.out) | (with_reducible refine Kd.C_alloc ?_ _) | (with_reducible refine Kd.C_drewN ?_ _) | (with_reducible refine Kd.C_drew ?_))); (case side2 => exact HC0.out); rintro e w' ⟨rfl, ⟨nd, rfl⟩⟩; (try first | exact ⟨rfl, _, World.drewN_drewN _ _ _⟩ | exact ⟨rfl, _, Eq.trans (World.drewN_drewN _ _ _) (congrArg (World.drewN _) (Nat.add_assoc _ _ _))⟩)) | (go_at_call 47; (with_reducible refine (fippleref08_increasing.calls k2 _ _ l0 1 false _ ?side1 ?side2 A21.out).mono ?_); (case side1 => repeat (first | exact (Kd.C_below HR0.out (by repeat (first | (with_reducible first | exact HB.out | apply below_alloc | apply pw_below_drewN | apply below_drew1) | exact HB.out))) | (with_reducible refine Kd.C_alloc ?_ _) | (with_reducible refine Kd.C_drewN ?_ _) | (with_reducible refine Kd.C_drew ?_))); (case side2 => exact HC0.out); rintro e w' ⟨rfl, ⟨nd, rfl⟩⟩; (try first | exact ⟨rfl, _, World.drewN_drewN _ _ _⟩ | exact ⟨rfl, _, Eq.trans (World.drewN_drewN _ _ _) (congrArg (World.drewN _) (Nat.add_assoc _ _ _))⟩))); try go_wp2_with (first | (go_at_call 46; (with_reducible refine (fippleref08_shaped.calls k2 _ _ l0 true _ ?side1 ?side2 A19.out).mono ?_); (case side1 => repeat (first | exact (Kd.C_below HR0.out HB.out) | (with_reducible refine Kd.C_alloc ?_ _) | (with_reducible refine Kd.C_drewN ?_ _) | (with_reducible refine Kd.C_drew ?_))); (case side2 => exact HC0.out); rintro e w' ⟨rfl, ⟨nd, rfl⟩⟩; (try first | exact ⟨rfl, _, World.drewN_drewN _ _ _⟩ | exact ⟨rfl, _, Eq.trans (World.drewN_drewN _ _ _) (congrArg (World.drewN _) (Nat.add_assoc _ _ _))⟩)) | (go_at_call 47; (with_reducible refine (fippleref08_increasing.calls k2 _ _ l0 1 false _ ?side1 ?side2 A21.out).mono ?_); (case side1 => repeat (first | exact (Kd.C_below HR0.out (by repeat (first | (with_reducible first | exact HB.out | apply below_alloc | apply pw_below_drewN | apply below_drew1) | exact HB.out))) | (with_reducible refine Kd.C_alloc ?_ _) | (with_reducible refine Kd.C_drewN ?_ _) | (with_reducible refine Kd.C_drew ?_))); (case side2 => exact HC0.out); rintro e w' ⟨rfl, ⟨nd, rfl⟩⟩; (try first | exact ⟨rfl, _, World.drewN_drewN _ _ _⟩ | exact ⟨rfl, _, Eq.trans (World.drewN_drewN _ _ _) (congrArg (World.drewN _) (Nat.add_assoc _ _ _))⟩))))
          go_ret
          exact ⟨by first | rfl | (simp [errW_none, errW_some] <;> rfl) | (simp [*, errW_none, errW_some] <;> rfl), by repeat (first | (with_reducible first | exact HB.out | apply below_alloc | apply pw_below_drewN | apply below_drew1) | exact HB.out)⟩
        ·
         replace c20 := Bool.eq_false_iff.mpr c20
         subst c20
         have H1 : (some 22) = some r := by rw [if_neg (show ¬ (false = true) by decide)] at H; exact H
         clear H
         have H := H1
         clear H1
         obtain rfl := Option.some.inj H
         go_wp2_with (first | (go_at_call 46; (with_reducible refine (fippleref08_shaped.calls k2 _ _ l0 false _ ?side1 ?side2 A19.out).mono ?_); (case side1 => repeat (first | exact (Kd.C_below HR0.out HB.out) | (with_reducible refine Kd.C_alloc ?_ _) | (with_reducible refine Kd.C_drewN ?_ _) | (with_reducible refine Kd.C_drew ?_))); (case side2 => exact HC0.out); rintro e w' ⟨rfl, ⟨nd, rfl⟩⟩; (try first | exact ⟨rfl, _, World.drewN_drewN _ _ _⟩ | exact ⟨rfl, _, Eq.trans (World.drewN_drewN _ _ _) (congrArg (World.drewN _) (Nat.add_assoc _ _ _))⟩)))
         repeat (go_quiet (first | (go_at_call 46; (with_reducible refine (fippleref08_shaped.calls k2 _ _ l0 false _ ?side1 ?side2 A19.out).mono ?_); (case side1 => repeat (first | exact (Kd.C_below HR0.out HB.out) | (with_reducible refine Kd.C_alloc ?_ _) | (with_reducible refine Kd.C_drewN ?_ _) | (with_reducible refine Kd.C_drew ?_))); (case side2 => exact HC0.out); rintro e w' ⟨rfl, ⟨nd, rfl⟩⟩; (try first | exact ⟨rfl, _, World.drewN_drewN _ _ _⟩ | exact ⟨rfl, _, Eq.trans (World.drewN_drewN _ _ _) (congrArg (World.drewN _) (Nat.add_assoc _ _ _))⟩))); try go_wp2_with (first | (go_at_call 46; (with_reducible refine (fippleref08_shaped.calls k2 _ _ l0 false _ ?side1 ?side2 A19.out).mono ?_); (case side1 => repeat (first | exact (Kd.C_below HR0.out HB.out) | (with_reducible refine Kd.C_alloc ?_ _) | (with_reducible refine Kd.C_drewN ?_ _) | (with_reducible refine Kd.C_drew ?_))); (case side2 => exact HC0.out); rintro e w' ⟨rfl, ⟨nd, rfl⟩⟩; (try first | exact ⟨rfl, _, World.drewN_drewN _ _ _⟩ | exact ⟨rfl, _, Eq.trans (World.drewN_drewN _ _ _) (congrArg (World.drewN _) (Nat.add_assoc _ _ _))⟩))))
         go_ret
         exact ⟨by first | rfl | (simp [errW_none, errW_some] <;> rfl) | (simp [*, errW_none, errW_some] <;> rfl), by repeat (first | (with_reducible first | exact HB.out | apply below_alloc | apply pw_below_drewN | apply below_drew1) | exact HB.out)⟩

end Go.Proofs.Ytpbemjdaanlaoaa.Pr
set_option linter.unusedVariables false
set_option linter.unusedSimpArgs false
namespace Go.Proofs.Ytpbemjdaanlaoaa.Pr
open Go.RowKit Go.Proofs.YtpbemjdaanlaoaaW.PrintWords Go.Proofs.YtpbemjdaanlaoaaW.PrintLast Go.Proofs.YtpbemjdaanlaoaaW.PrintMore
set_option maxRecDepth 100000

theorem wm1_ (j : Nat) (h : j < 1000000) (h0 : 0 < j) : wrap64 ((j : Int) - 1) = ((j - 1 : Nat) : Int) := by unfold wrap64; omega

/-- shaped -/
theorem shaped_loop (l : List (List Int)) (hl : l.length ≤ 1000) (b : Bool) : ∀ d j, l.length - j = d → j ≤ l.length → (b = true ↔ ∀ k, j ≤ k → k < l.length → shR l k = true) → Ev (fun k => fippleref08_shaped.l0 k l (j : Int)) b := by
  intro d
  induction d with
  | zero =>
    intro j h1 h2 hb
    obtain rfl : b = true := hb.mpr fun k h3 h4 => by omega
    refine Ev.step (f := fun _ => some true) (fun k => ?_) (Ev.now _)
    simp only [fippleref08_shaped.l0]
    rw [if_neg (by omega)]
  | succ d ih =>
    intro j h1 h2 hb
    have hj : j < l.length := by omega
    by_cases hz : (rd_L1 l (j : Int)).length = 0
    · obtain rfl : b = false := by
        cases hbb : b with
        | false => rfl
        | true =>
          have := hb.mp hbb j (Nat.le_refl _) hj
          simp [shR, hz] at this
      refine Ev.step (f := fun _ => some false) (fun k => ?_) (Ev.now _)
      simp only [fippleref08_shaped.l0]
      rw [if_pos (by omega), if_pos (by omega), if_pos (by omega)]
    by_cases h0 : j = 0
    · subst h0
      refine Ev.step (f := fun k => fippleref08_shaped.l0 k l ((0 + 1 : Nat) : Int)) (fun k => ?_) (ih 1 (by omega) (by omega) ?_)
      · simp only [fippleref08_shaped.l0]
        rw [if_pos (by omega), if_pos (by omega), if_neg (by omega), if_neg (by omega), w1_ 0 (by omega)]
      · rw [hb]
        constructor
        · intro h k h3 h4
          exact h k (by omega) h4
        · intro h k h3 h4
          by_cases hk : k = 0
          · subst hk
            simp only [shR, decide_true, Bool.true_or, Bool.and_true, decide_eq_true_eq]
            omega
          · exact h k (by omega) h4
    · have hw := wm1_ j (by omega) (by omega)
      have hc : ((j - 1 : Nat) : Int) = (j : Int) - 1 := by omega
      by_cases hg : (rd_L1 l (j : Int)).length ≤ (rd_L1 l ((j : Int) - 1)).length
      · refine Ev.step (f := fun k => fippleref08_shaped.l0 k l ((j + 1 : Nat) : Int)) (fun k => ?_) (ih (j + 1) (by omega) (by omega) ?_)
        · simp only [fippleref08_shaped.l0]
          rw [if_pos (by omega), if_pos (by omega), if_neg (by omega), if_pos (by omega), hw, if_pos (by omega), if_pos (by omega), hc, if_neg (by omega), w1_ j (by omega)]
        · rw [hb]
          constructor
          · intro h k h3 h4
            exact h k (by omega) h4
          · intro h k h3 h4
            by_cases hk : k = j
            · subst hk
              simp only [shR, Bool.and_eq_true, Bool.or_eq_true, decide_eq_true_eq]
              exact ⟨by omega, Or.inr hg⟩
            · exact h k (by omega) h4
      · obtain rfl : b = false := by
          cases hbb : b with
          | false => rfl
          | true =>
            have := hb.mp hbb j (Nat.le_refl _) hj
            simp only [shR, Bool.and_eq_true, Bool.or_eq_true, decide_eq_true_eq] at this
            omega
        refine Ev.step (f := fun _ => some false) (fun k => ?_) (Ev.now _)
        simp only [fippleref08_shaped.l0]
        rw [if_pos (by omega), if_pos (by omega), if_neg (by omega), if_pos (by omega), hw, if_pos (by omega), if_pos (by omega), hc, if_pos (by omega)]
theorem shaped_ev (l : List (List Int)) (hl : l.length ≤ 1000) : Ev (fun k => fippleref08_shaped.f k l) (shB l) := by
  have := shaped_loop l hl (shB l) l.length 0 (by omega) (by omega) ((shB_iff l).trans ⟨fun h k _ h2 => h k h2, fun h k h2 => h k (by omega) h2⟩)
  exact this

/-- increasing -/
def okRow (rows : List (List Int)) (by_ : Int) (i p : Nat) : Prop := ∀ q : Nat, p ≤ q → q < (rd_L1 rows (i : Int)).length → okPl rows by_ (i : Int) (q : Int) = true
def okFr (rows : List (List Int)) (by_ : Int) (i p : Nat) : Prop := okRow rows by_ i p ∧ ∀ a : Nat, i < a → a < rows.length → okRow rows by_ a 0
theorem okFr_step {rows : List (List Int)} {by_ : Int} {i p : Nat} (h : okPl rows by_ (i : Int) (p : Int) = true) : okFr rows by_ i p ↔ okFr rows by_ i (p + 1) := by
  constructor
  · intro ⟨h1, h2⟩
    exact ⟨fun q hq => h1 q (by omega), h2⟩
  · intro ⟨h1, h2⟩
    refine ⟨fun q hq hl => ?_, h2⟩
    by_cases hqp : q = p
    · subst hqp; exact h
    · exact h1 q (by omega) hl
theorem okFr_end {rows : List (List Int)} {by_ : Int} {i p : Nat} (h : (rd_L1 rows (i : Int)).length ≤ p) : okFr rows by_ i p ↔ ∀ a : Nat, i < a → a < rows.length → okRow rows by_ a 0 :=
  ⟨fun h => h.2, fun h2 => ⟨fun q hq hl => by omega, h2⟩⟩
theorem okFr_no {rows : List (List Int)} {by_ : Int} {i p : Nat} (h : okPl rows by_ (i : Int) (p : Int) = false) (hp : p < (rd_L1 rows (i : Int)).length) : ¬ okFr rows by_ i p := by
  intro ⟨h1, _⟩
  have := h1 p (Nat.le_refl _) hp
  rw [h] at this
  cases this

theorem okPl_t {rows : List (List Int)} {by_ a b : Int} (h : ¬ ((0 < b ∧ rd (rd_L1 rows a) b < rd (rd_L1 rows a) (b - 1) + by_) ∨ (0 < a ∧ rd (rd_L1 rows a) b ≤ rd (rd_L1 rows (a - 1)) b))) : okPl rows by_ a b = true := by
  simp only [okPl, Bool.not_eq_true', Bool.or_eq_false_iff, Bool.and_eq_false_iff, decide_eq_false_iff_not]
  exact ⟨Decidable.or_iff_not_imp_left.mpr fun h1 h2 => h (Or.inl ⟨Decidable.not_not.mp h1, h2⟩), Decidable.or_iff_not_imp_left.mpr fun h1 h2 => h (Or.inr ⟨Decidable.not_not.mp h1, h2⟩)⟩
theorem okPl_f {rows : List (List Int)} {by_ a b : Int} (h : (0 < b ∧ rd (rd_L1 rows a) b < rd (rd_L1 rows a) (b - 1) + by_) ∨ (0 < a ∧ rd (rd_L1 rows a) b ≤ rd (rd_L1 rows (a - 1)) b)) : okPl rows by_ a b = false := by
  simp only [okPl, Bool.not_eq_false', Bool.or_eq_true, Bool.and_eq_true, decide_eq_true_eq]
  exact h
set_option maxHeartbeats 4000000 in
theorem incr_row (l : List (List Int)) (by_ : Int) (hl : l.length ≤ 1000) (hn : ∀ i : Nat, (rd_L1 l (i : Int)).length ≤ 1000) (hs : ∀ k, k < l.length → shR l k = true) (hv : ∀ i p : Nat, wrap64 (rd (rd_L1 l (i : Int)) (p : Int) + by_) = rd (rd_L1 l (i : Int)) (p : Int) + by_) (b : Bool) (i : Nat) (hi : i < l.length)
    (rest : (∀ a : Nat, i < a → a < l.length → okRow l by_ a 0) → b = true → True) (hnext : (b = true ↔ ∀ a : Nat, i < a → a < l.length → okRow l by_ a 0) → Ev (fun k => fippleref08_increasing.l0 k l by_ ((i + 1 : Nat) : Int)) b) :
    ∀ d p, (rd_L1 l (i : Int)).length - p = d → p ≤ (rd_L1 l (i : Int)).length → (b = true ↔ okFr l by_ i p) → Ev (fun k => fippleref08_increasing.l1 k l by_ (i : Int) (p : Int)) b := by
  intro d
  induction d with
  | zero =>
    intro p h1 h2 hb
    refine Ev.step (f := fun k => fippleref08_increasing.l0 k l by_ ((i + 1 : Nat) : Int)) (fun k => ?_) (hnext (hb.trans (okFr_end (by omega))))
    simp only [fippleref08_increasing.l1]
    rw [if_pos (by omega), if_pos (by omega), if_neg (by omega), w1_ i (by omega)]
  | succ d ih =>
    intro p h1 h2 hb
    have hp : p < (rd_L1 l (i : Int)).length := by omega
    have hni := hn i
    have hsh := hs i hi
    simp only [shR, Bool.and_eq_true, Bool.or_eq_true, decide_eq_true_eq] at hsh
    have hgo : okPl l by_ (i : Int) (p : Int) = true → Ev (fun k => fippleref08_increasing.l1 k l by_ (i : Int) ((p + 1 : Nat) : Int)) b := fun h => ih (p + 1) (by omega) (by omega) (hb.trans (okFr_step h))
    have hno : okPl l by_ (i : Int) (p : Int) = false → b = false := fun h => by
      cases hbb : b with
      | false => rfl
      | true => exact absurd (hb.mp hbb) (okFr_no h hp)
    by_cases hp0 : p = 0
    · subst hp0
      by_cases hi0 : i = 0
      · subst hi0
        refine Ev.step (f := fun k => fippleref08_increasing.l1 k l by_ ((0 : Nat) : Int) ((0 + 1 : Nat) : Int)) (fun k => ?_) (hgo (okPl_t (by omega)))
        simp only [fippleref08_increasing.l1]
        rw [if_pos (by omega), if_pos (by omega), if_pos (by omega), if_neg (by omega), if_neg (by omega), w1_ 0 (by omega)]
      · have hw := wm1_ i (by omega) (by omega)
        have hc : ((i - 1 : Nat) : Int) = (i : Int) - 1 := by omega
        by_cases hq : rd (rd_L1 l (i : Int)) ((0 : Nat) : Int) ≤ rd (rd_L1 l ((i : Int) - 1)) ((0 : Nat) : Int)
        · have := hno (okPl_f (Or.inr ⟨by omega, hq⟩))
          subst this
          refine Ev.step (f := fun _ => some false) (fun k => ?_) (Ev.now _)
          simp only [fippleref08_increasing.l1]
          rw [if_pos (by omega), if_pos (by omega), if_pos (by omega), if_neg (by omega), if_pos (by omega), if_pos (by omega), hw, if_pos (by omega), if_pos (by omega), hc, if_pos (by omega), if_pos hq]
        · refine Ev.step (f := fun k => fippleref08_increasing.l1 k l by_ (i : Int) ((0 + 1 : Nat) : Int)) (fun k => ?_) (hgo (okPl_t (by omega)))
          simp only [fippleref08_increasing.l1]
          rw [if_pos (by omega), if_pos (by omega), if_pos (by omega), if_neg (by omega), if_pos (by omega), if_pos (by omega), hw, if_pos (by omega), if_pos (by omega), hc, if_pos (by omega), if_neg hq, w1_ 0 (by omega)]
    · have hwp := wm1_ p (by omega) (by omega)
      have hcp : ((p - 1 : Nat) : Int) = (p : Int) - 1 := by omega
      have hvp := hv i (p - 1)
      rw [hcp] at hvp
      by_cases hx : rd (rd_L1 l (i : Int)) (p : Int) < rd (rd_L1 l (i : Int)) ((p : Int) - 1) + by_
      · have := hno (okPl_f (Or.inl ⟨by omega, hx⟩))
        subst this
        refine Ev.step (f := fun _ => some false) (fun k => ?_) (Ev.now _)
        simp only [fippleref08_increasing.l1]
        rw [if_pos (by omega), if_pos (by omega), if_pos (by omega), if_pos (by omega), if_pos (by omega), hwp, if_pos (by omega), if_pos (by omega), hcp, hvp, if_pos hx]
      by_cases hi0 : i = 0
      · subst hi0
        refine Ev.step (f := fun k => fippleref08_increasing.l1 k l by_ ((0 : Nat) : Int) ((p + 1 : Nat) : Int)) (fun k => ?_) (hgo (okPl_t (by omega)))
        simp only [fippleref08_increasing.l1]
        rw [if_pos (by omega), if_pos (by omega), if_pos (by omega), if_pos (by omega), if_pos (by omega), hwp, if_pos (by omega), if_pos (by omega), hcp, hvp, if_neg hx, if_neg (by omega), w1_ p (by omega)]
      · have hw := wm1_ i (by omega) (by omega)
        have hc : ((i - 1 : Nat) : Int) = (i : Int) - 1 := by omega
        by_cases hq : rd (rd_L1 l (i : Int)) (p : Int) ≤ rd (rd_L1 l ((i : Int) - 1)) (p : Int)
        · have := hno (okPl_f (Or.inr ⟨by omega, hq⟩))
          subst this
          refine Ev.step (f := fun _ => some false) (fun k => ?_) (Ev.now _)
          simp only [fippleref08_increasing.l1]
          rw [if_pos (by omega), if_pos (by omega), if_pos (by omega), if_pos (by omega), if_pos (by omega), hwp, if_pos (by omega), if_pos (by omega), hcp, hvp, if_neg hx, if_pos (by omega), hw, if_pos (by omega), if_pos (by omega), hc, if_pos (by omega), if_pos hq]
        · refine Ev.step (f := fun k => fippleref08_increasing.l1 k l by_ (i : Int) ((p + 1 : Nat) : Int)) (fun k => ?_) (hgo (okPl_t (by omega)))
          simp only [fippleref08_increasing.l1]
          rw [if_pos (by omega), if_pos (by omega), if_pos (by omega), if_pos (by omega), if_pos (by omega), hwp, if_pos (by omega), if_pos (by omega), hcp, hvp, if_neg hx, if_pos (by omega), hw, if_pos (by omega), if_pos (by omega), hc, if_pos (by omega), if_neg hq, w1_ p (by omega)]

theorem incr_loop (l : List (List Int)) (by_ : Int) (hl : l.length ≤ 1000) (hn : ∀ i : Nat, (rd_L1 l (i : Int)).length ≤ 1000) (hs : ∀ k, k < l.length → shR l k = true) (hv : ∀ i p : Nat, wrap64 (rd (rd_L1 l (i : Int)) (p : Int) + by_) = rd (rd_L1 l (i : Int)) (p : Int) + by_) (b : Bool) :
    ∀ d i, l.length - i = d → i ≤ l.length → (b = true ↔ ∀ a : Nat, i ≤ a → a < l.length → okRow l by_ a 0) → Ev (fun k => fippleref08_increasing.l0 k l by_ (i : Int)) b := by
  intro d
  induction d with
  | zero =>
    intro i h1 h2 hb
    obtain rfl : b = true := hb.mpr fun k h3 h4 => by omega
    refine Ev.step (f := fun _ => some true) (fun k => ?_) (Ev.now _)
    simp only [fippleref08_increasing.l0]
    rw [if_neg (by omega)]
  | succ d ih =>
    intro i h1 h2 hb
    have hi : i < l.length := by omega
    refine Ev.step (f := fun k => fippleref08_increasing.l1 k l by_ (i : Int) ((0 : Nat) : Int)) (fun k => ?_) ?_
    · simp only [fippleref08_increasing.l0]
      rw [if_pos (by omega)]
      rfl
    · refine incr_row l by_ hl hn hs hv b i hi (fun _ _ => trivial) (fun hb2 => ih (i + 1) (by omega) (by omega) (hb2.trans ⟨fun h a h3 => h a (by omega), fun h a h3 => h a (by omega)⟩)) _ 0 rfl (by omega) (hb.trans ?_)
      constructor
      · intro h
        exact ⟨h i (Nat.le_refl _) hi, fun a h3 => h a (by omega)⟩
      · intro ⟨h3, h4⟩ a h5 h6
        by_cases ha : a = i
        · subst ha; exact h3
        · exact h4 a (by omega) h6
theorem incr_ev (l : List (List Int)) (by_ : Int) (hl : l.length ≤ 1000) (hn : ∀ i : Nat, (rd_L1 l (i : Int)).length ≤ 1000) (hs : shB l = true) (hv : ∀ i p : Nat, wrap64 (rd (rd_L1 l (i : Int)) (p : Int) + by_) = rd (rd_L1 l (i : Int)) (p : Int) + by_) : Ev (fun k => fippleref08_increasing.f k l by_) (risesB l by_) := by
  have := incr_loop l by_ hl hn ((shB_iff l).mp hs) hv (risesB l by_) l.length 0 (by omega) (by omega) (by
    simp only [risesB, hs, Bool.true_and, List.all_eq_true, List.mem_range]
    exact ⟨fun h a _ h2 q _ h3 => h a h2 q h3, fun h a h2 q h3 => h a (by omega) h2 q (by omega) h3⟩)
  exact this

/-- the last two questions of both checks -/
theorem tail_ev (l : List (List Int)) (by_ : Int) (hl : l.length ≤ 1000) (hn : ∀ i : Nat, (rd_L1 l (i : Int)).length ≤ 1000) (hv : ∀ i p : Nat, wrap64 (rd (rd_L1 l (i : Int)) (p : Int) + by_) = rd (rd_L1 l (i : Int)) (p : Int) + by_) :
    Ev (fun k => (fippleref08_shaped.f k l).bind fun t523 => (if t523 = true then ((fippleref08_increasing.f k l by_).bind fun t524 => (if t524 = true then (some (0 : Int)) else (some 22))) else (some 22))) (if risesB l by_ = false then 22 else 0) := by
  refine Ev.bind (shaped_ev l hl) ?_
  by_cases hs : shB l = true
  · refine Ev.congr (f := fun k => (fippleref08_increasing.f k l by_).bind fun t524 => (if t524 = true then (some (0 : Int)) else (some 22))) (fun k => by rw [if_pos hs]) ?_
    refine Ev.bind (incr_ev l by_ hl hn hs hv) ?_
    cases risesB l by_ <;> exact Ev.now _
  · refine Ev.congr (f := fun k => some (22 : Int)) (fun k => by rw [if_neg hs]) ?_
    rw [if_pos (by simp [risesB, hs])]
    exact Ev.now _
end Go.Proofs.Ytpbemjdaanlaoaa.Pr
set_option linter.unusedVariables false
set_option linter.unusedSimpArgs false
namespace Go.Proofs.Ytpbemjdaanlaoaa.Pr
open Go.RowKit Go.Proofs.YtpbemjdaanlaoaaW.PrintWords Go.Proofs.YtpbemjdaanlaoaaW.PrintLast Go.Proofs.YtpbemjdaanlaoaaW.PrintMore
open Go.Maps
set_option maxRecDepth 100000

theorem gt_le {l : List Int} {t : Int} {k : Nat} (h : k < gtIdx l t) : rd l (k : Int) ≤ t := by
  have hl : k < l.length := Nat.lt_of_lt_of_le h (gtIdx_le l t)
  have := List.not_of_lt_findIdx (p := fun n => decide (n > t)) (xs := l) h
  rw [rd_get l k hl]
  simp at this
  exact this
theorem gt_at {l : List Int} {t : Int} (h : gtIdx l t < l.length) : t < rd l ((gtIdx l t : Nat) : Int) := by
  rw [rd_get l _ h]
  have := List.findIdx_getElem (p := fun n => decide (n > t)) (xs := l) (w := h)
  exact of_decide_eq_true this
theorem putS_lenL {m : Nat} {rows : List (List Int)} {t : Int} (h : lenL m rows) : ∀ k, lenL m (putS rows t k).1
  | 0 => h
  | k + 1 => by
    intro r hr
    rcases List.mem_or_eq_of_mem_set hr with h1 | h1
    · exact putS_lenL h k r h1
    · rw [h1, List.length_set]; exact lenL_at (putS_lenL h k) _
def lenOk (rows : List (List Int)) : Bool := rows.all fun r => decide (r.length ≤ 1000)
theorem lenOk_iff {rows : List (List Int)} : lenOk rows = true ↔ lenL 1000 rows := by simp [lenOk, lenL]
def fippleref08_PutOf.f (l0 : List (List Int)) (a1 : Int) : Option ((List (List Int)) × Int) := if l0.length ≤ 1000 ∧ lenOk l0 = true then some ((putL l0 a1).1, (putL l0 a1).2.1) else none

set_option maxHeartbeats 4000000 in
theorem fippleref08_PutOf.calls (A0 : Option Addr) (c0 : Nat) (l0 : List (List Int)) (a1 : Int) (r1 : List (List Int)) (r2 : Int) (w : World) (hr0 : Kd.C (Kd.slice 3 (Kd.int .i64)) w A0 l0.length l0) (hc0 : l0.length ≤ c0) (h : fippleref08_PutOf.f l0 a1 = some (r1, r2)) :
    Calls Try.prog 53 #[.slice A0 l0.length c0, .int .i64 a1] w fun e w' => ∃ v0_ : Value, e = .returned (.tuple #[v0_, .int .i64 r2]) ∧ Kd.S (Kd.slice 3 (Kd.int .i64)) 32 w' w.heap.size (fun _ => True) v0_ r1 ∧ Below w.heap.size w w' := by
  unfold fippleref08_PutOf.f at h
  have hb : l0.length ≤ 1000 ∧ lenOk l0 = true := by
    by_cases hb : l0.length ≤ 1000 ∧ lenOk l0 = true
    · exact hb
    · rw [if_neg hb] at h; cases h
  rw [if_pos hb] at h
  injection h with h
  injection h with e1 e2
  subst e1 e2
  obtain ⟨hl, hlo⟩ := hb
  have hlen := lenOk_iff.1 hlo
  have h85 := copy85 A0 c0 l0 w hr0 hc0 hl hlen
  have H85 := Lib.hid h85; have HLEN := Lib.hid hlen
  clear h85 hr0 hlo hlen
  go_enter Try.func53, Try.ntmps53
  go_wp2_with (go_at_call 85; refine H85.out.mono ?_; rintro e w1 ⟨v1, rfl, hS1, hb1⟩; obtain ⟨Av, cv, rfl⟩ := Kd.S_slice hS1; have HS1 := Lib.hid hS1; have HB1 := Lib.hid hb1; clear hS1 hb1)
  go_loopw [1, 7] (fun t i wr => ∃ (k : Nat), k ≤ l0.length ∧ i = .int .i64 k ∧ t = .int .i64 (putS l0 a1 k).2.1 ∧ Hid (Kd.S (Kd.slice 3 (Kd.int .i64)) 32 wr w.heap.size (fun _ => True) (.slice Av l0.length cv) (putS l0 a1 k).1) ∧ Hid (putL l0 a1 = putFind l0 a1 (l0.length - k) k) ∧ Hid (Below w.heap.size w wr)) (fun _ i _ => l0.length - (intOf i).toNat)
  case atStart => exact ⟨0, Nat.zero_le _, rfl, rfl, HS1, rfl, HB1⟩
  case round =>
    obtain ⟨k, hk, rfl, rfl, HS, HF, HB⟩ := hrel
    have hlenk := putS_len l0 a1 k
    have hlL := putS_lenL (t := a1) HLEN.out k
    by_cases hlt : k < l0.length
    · have hnext : putS l0 a1 (k + 1) = ((putS l0 a1 k).1.set k ((rd_L1 (putS l0 a1 k).1 (k : Int)).set (gtIdx (rd_L1 (putS l0 a1 k).1 (k : Int)) (putS l0 a1 k).2.1) (putS l0 a1 k).2.1), rd (rd_L1 (putS l0 a1 k).1 (k : Int)) ((gtIdx (rd_L1 (putS l0 a1 k).1 (k : Int)) (putS l0 a1 k).2.1 : Nat) : Int), if (putS l0 a1 k).2.2 < 0 then ((gtIdx (rd_L1 (putS l0 a1 k).1 (k : Int)) (putS l0 a1 k).2.1 : Nat) : Int) else (putS l0 a1 k).2.2) := rfl
      have hfind : putL l0 a1 = (if gtIdx (rd_L1 (putS l0 a1 k).1 (k : Int)) (putS l0 a1 k).2.1 = (rd_L1 (putS l0 a1 k).1 (k : Int)).length then ((putS l0 a1 k).1.set k (rd_L1 (putS l0 a1 k).1 (k : Int) ++ [(putS l0 a1 k).2.1]), (k : Int), if (putS l0 a1 k).2.2 < 0 then ((gtIdx (rd_L1 (putS l0 a1 k).1 (k : Int)) (putS l0 a1 k).2.1 : Nat) : Int) else (putS l0 a1 k).2.2) else putFind l0 a1 (l0.length - (k + 1)) (k + 1)) := by
        rw [HF.out, show l0.length - k = (l0.length - (k + 1)) + 1 by omega]
        rfl
      generalize putS l0 a1 k = s at *
      obtain ⟨R, tt, f⟩ := s
      simp only at hlenk hlL hnext hfind HS
      rw [← hlenk] at HS hlt
      obtain ⟨go, cap, hv, _⟩ := Kd.S_form HS.out (by omega)
      injection hv with hv1 _ hv3
      subst hv1 hv3
      obtain ⟨vk, q1, oki, hRk, hoki, hHk⟩ := S_elem HS.out k hlt
      obtain ⟨row, hrow⟩ : ∃ row, row = rd_L1 R (k : Int) := ⟨_, rfl⟩
      rw [← hrow] at hRk hnext hfind
      have hrowl : row.length ≤ 1000 := by rw [hrow]; exact lenL_at hlL _
      obtain ⟨Ak, ck, rfl, hck, hCk⟩ := Kd.R_reads hRk
      obtain ⟨at_, hat⟩ : ∃ at_, at_ = gtIdx row tt := ⟨_, rfl⟩
      rw [← hat] at hnext hfind
      have hatl : at_ ≤ row.length := by rw [hat]; exact gtIdx_le _ _
      have hrl1 : R.length ≤ 1000 := by omega
      have HRK := Lib.hid hRk; have HOKI := Lib.hid hoki; have HHK := Lib.hid hHk; have HCK := Lib.hid hCk; have HROW := Lib.hid hrow; have HAT := Lib.hid hat; have HN := Lib.hid hnext; have HFI := Lib.hid hfind; have HLK := Lib.hid hlenk
      clear hRk hoki hHk hCk hrow hat hnext hfind hlL HF
      rw [← hlenk]
      clear hlenk
      go_wp2
      go_loop [8] (fun j => ∃ j' : Nat, j' ≤ at_ ∧ j = .int .i64 j') (fun j => at_ - (intOf j).toNat)
      case atStart => exact ⟨0, Nat.zero_le _, rfl⟩
      case round =>
        obtain ⟨j, hj, rfl⟩ := hrel
        by_cases hja : j < at_
        · obtain ⟨ad, rfl, q2⟩ := Kd.at_int HCK.out (j : Int) (by omega) (by omega)
          rw [Int.toNat_natCast] at q2
          have hle : rd row (j : Int) ≤ tt := gt_le (by rw [← HAT.out]; exact hja)
          have hjl : j < row.length := by omega
          generalize rd row (j : Int) = y at *
          have hyd : decide (y ≤ tt) = true := decide_eq_true hle
          clear hle
          go_wp2
          go_round
          case rel => exact ⟨j + 1, by omega, by go_num⟩
          case measure => simp [intOf]; omega
        · obtain rfl : j = at_ := by omega
          clear hja
          by_cases hjl : j < row.length
          · obtain ⟨gi, ci, hvi, hgi, _⟩ := Kd.R_form HRK.out (by omega)
            injection hvi with hv1 _ hv3
            subst hv1 hv3
            obtain ⟨z1, z2⟩ := Kd.R_celln (0 : Int) HRK.out (j : Int) (by omega) (by omega)
            rw [Int.toNat_natCast] at z1 z2
            have z1' : wr.cell? ⟨gi, j, none⟩ = some (.int .i64 (rd row (j : Int))) := z1
            have hgt : tt < rd row (j : Int) := by have := gt_at (l := row) (t := tt) (by rw [← HAT.out]; exact hjl); rw [← HAT.out] at this; exact this
            have hS2 := Lib.hid (S_elem_put HS.out HRK.out HHK.out j tt)
            have hjn : ¬ j = row.length := by omega
            have hjb : ((j : Int) == (row.length : Int)) = false := beq_eq_false_iff_ne.2 (by omega)
            obtain ⟨y, hy⟩ : ∃ y, y = rd row (j : Int) := ⟨_, rfl⟩
            rw [← hy] at z1' hgt
            have HY := Lib.hid hy
            have hyd : decide (y ≤ tt) = false := decide_eq_false (by omega)
            have HGI := Lib.hid hgi
            clear z1 hgt hy hgi hjn
            go_wp2
            go_region
            all_goals
              go_wp2
              refine ⟨⟨k + 1, by omega, by go_num, by rw [HN.out, ← HY.out], ?_, ?_, (HB.out.setCell (p := ⟨gi, j, none⟩) HGI.out _).drew⟩, by simp [intOf]; omega⟩
              · rw [HN.out]; exact Kd.S_drew hS2.out
              · show _ = _
                rw [HFI.out, if_neg (show ¬ j = row.length by omega), HLK.out]
          · have hje : j = row.length := by omega
            have hjb : ((j : Int) == (row.length : Int)) = true := beq_iff_eq.2 (by omega)
            have HJE := Lib.hid hje
            clear hje
            have hbl : (row.length + 1) * 8 ≤ 140737488355328 := by omega
            have HW := Lib.hid HB.out.size
            have hfin : Hid (putL l0 a1 = (R.set k (row ++ [tt]), (k : Int), if f < 0 then (j : Int) else f)) := by
              show _ = _
              rw [HFI.out, if_pos HJE.out]
            go_wp2_with (((with_reducible refine gate_builtin (b := .append) (xs := #[.tmp 49, .tmp 51]) rfl ?_); at_builtin; refine Kd.R_append (Kd.int .i64) (w0 := wr) w.heap.size rfl (.tmp 49) (.tmp 51) 32 3 (.int .i64 0) 8 rfl Try.underlying32 info3 rfl (by decide) (by omega) (.slice Ak row.length ck) row tt [.int .i64 tt] (fun q => oki q ∨ True ∧ wr.heap.size ≤ q) (fun _ => False) rfl rfl rfl (fun _ h => h.elim) (fun q hq => .inr ⟨trivial, hq⟩) (Kd.R_mono HRK.out (fun q hq => .inl hq)) (Below.refl _ _) HW.out hbl ?_; intro v3 w3 hr3 hb3 hg3 hat3; obtain ⟨A9, c9, rfl⟩ := Kd.R_slice hr3; obtain ⟨⟨u3, y1⟩, y2, y3, y4, hS3⟩ := S_elem_back HS.out hlt HRK.out HOKI.out HHK.out hr3 hg3; have hB3 := (HB.out.trans (hb3.mono (Nat.le_refl _))).setCell (p := ⟨go, k, none⟩) y3 (.slice A9 (row ++ [tt]).length c9); rw [show (row ++ [tt]).length = row.length + 1 by simp] at hB3 hS3; have HB3 := Lib.hid hB3; have HS3 := Lib.hid hS3; clear hB3 hS3 hr3 hb3 hg3 hat3 y3 y4))
            all_goals
              go_ret2
              exact ⟨_, by rw [hfin.out]; rfl, by rw [hfin.out]; exact HS3.out, HB3.out⟩
    · obtain rfl : k = l0.length := by omega
      have hfin : Hid (putL l0 a1 = ((putS l0 a1 l0.length).1 ++ [[(putS l0 a1 l0.length).2.1]], ((l0.length : Nat) : Int), mx 0 (putS l0 a1 l0.length).2.2)) := by
        show _ = _
        rw [HF.out, Nat.sub_self]
        rfl
      generalize putS l0 a1 l0.length = s at *
      obtain ⟨R, tt, f⟩ := s
      simp only at hlenk hlL hfin HS
      have hbl : (R.length + 1) * 24 ≤ 140737488355328 := by omega
      have HLK := Lib.hid hlenk
      rw [← hlenk] at HS hfin
      rw [← hlenk]
      clear hlenk hlL HF hlt hk
      have hrow1 : RI (wr.alloc (.cells #[.int .i64 tt] 3)) wr.heap.size (.slice (some ⟨wr.heap.size, 0, none⟩) 1 1) [tt] := R_lits wr 3 [tt] (by simp)
      have HROW := Lib.hid hrow1
      have HVL := Lib.hid (Kd.S_lt HS.out)
      have HW := Lib.hid HB.out.size
      clear hrow1
      go_wp2_with (((with_reducible refine gate_builtin (b := .append) (xs := #[.tmp 70, .tmp 73]) rfl ?_); at_builtin; refine Kd.S_append (Kd.slice 3 (Kd.int .i64)) (w0 := wr.alloc (.cells #[.int .i64 tt] 3)) w.heap.size rfl (.tmp 70) (.tmp 73) 22 32 (.slice none 0 0) 24 rfl Try.underlying22 info32 rfl (by decide) (by omega) (.slice Av R.length cv) R [tt] [.slice (some ⟨wr.heap.size, 0, none⟩) 1 1] (fun _ => True) (fun q => some q = (Value.slice (some ⟨wr.heap.size, 0, none⟩) 1 1).ownBlock ∧ True) rfl (by show Value.slice (some ⟨wr.heap.size + 1, 0, none⟩) 1 1 = _; simp) (Kd.M_row (Kd.R_tight2 rfl (Kd.R_lower HROW.out HW.out))) (fun q hq => ⟨trivial, fun e => by have hq1 : q = wr.heap.size := (by have := hq.1; simpa [Value.ownBlock] using this); have := HVL.out q e.symm; omega⟩) (fun _ _ => trivial) (Kd.S_mono (Kd.S_bound HS.out |> fun h => Kd.S_alloc h _) (fun q hq => ⟨trivial, fun e => by have hq1 : q = wr.heap.size := (by have := e.1; simpa [Value.ownBlock] using this); have := hq.2.2.1; omega⟩)) (Below.refl _ _) (by have := HW.out; simp; omega) hbl ?_; intro v1 w1 hS1 hb1 hg1 hat1; obtain ⟨A9, c9, rfl⟩ := Kd.S_slice hS1; rw [show (R ++ [[tt]]).length = R.length + 1 by simp] at hS1; have HS9 := Lib.hid hS1; have HB9 := Lib.hid ((HB.out.alloc HW.out _).trans hb1); clear hS1 hb1 hg1 hat1))
      go_ret2
      exact ⟨_, by rw [hfin.out]; rfl, by rw [hfin.out]; exact HS9.out, HB9.out⟩
end Go.Proofs.Ytpbemjdaanlaoaa.Pr
set_option linter.unusedVariables false
set_option linter.unusedSimpArgs false
namespace Go.Proofs.Ytpbemjdaanlaoaa.Pr
open Go.RowKit Go.Proofs.YtpbemjdaanlaoaaW.PrintWords Go.Proofs.YtpbemjdaanlaoaaW.PrintLast Go.Proofs.YtpbemjdaanlaoaaW.PrintMore
open Go.Maps
set_option maxRecDepth 100000

def fipplelaw08_copied.f (l0 : List (List Int)) : Option (List (List Int)) := if l0.length ≤ 1000 ∧ lenOk l0 = true then some l0 else none

set_option maxHeartbeats 1000000 in
theorem fipplelaw08_copied.calls (A0 : Option Addr) (c0 : Nat) (l0 : List (List Int)) (r : List (List Int)) (w : World) (hr0 : Kd.C (Kd.slice 3 (Kd.int .i64)) w A0 l0.length l0) (hc0 : l0.length ≤ c0) (h : fipplelaw08_copied.f l0 = some r) :
    Calls Try.prog 9 #[.slice A0 l0.length c0] w fun e w' => ∃ v0_ : Value, e = .returned (v0_) ∧ Kd.S (Kd.slice 3 (Kd.int .i64)) 32 w' w.heap.size (fun _ => True) v0_ r ∧ Below w.heap.size w w' := by
  unfold fipplelaw08_copied.f at h
  have hb : l0.length ≤ 1000 ∧ lenOk l0 = true := by
    by_cases hb : l0.length ≤ 1000 ∧ lenOk l0 = true
    · exact hb
    · rw [if_neg hb] at h; cases h
  rw [if_pos hb] at h
  injection h with h
  subst h
  obtain ⟨hl, hlo⟩ := hb
  have HLL := Lib.hid (lenOk_iff.1 hlo); have HR := Lib.hid hr0
  clear hlo hr0
  go_enter Try.func9, Try.ntmps9
  go_wp2
  go_loopw [3, 4] (fun o i wr => ∃ k : Nat, k ≤ l0.length ∧ i = .int .i64 k ∧ Hid (Kd.S (Kd.slice 3 (Kd.int .i64)) 32 wr w.heap.size (fun _ => True) o (l0.take k)) ∧ Hid (Below w.heap.size w wr)) (fun _ i _ => l0.length - (intOf i).toNat)
  case atStart => exact ⟨0, Nat.zero_le _, rfl, by rw [List.take_zero]; exact Kd.S_nil _ _ _ _ _, Below.refl _ _⟩
  case round =>
    obtain ⟨k, hk, rfl, HS, HB⟩ := hrel
    by_cases hlt : k < l0.length
    · obtain ⟨ad, A1, c1, rfl, q1, q2, q3⟩ := at_L1 (Kd.C_below HR.out HB.out) (k : Int) (by omega) (by omega)
      rw [Int.toNat_natCast] at q1
      have hrl := lenL_at HLL.out (k : Int)
      obtain ⟨row, hrow⟩ : ∃ row, row = rd_L1 l0 (k : Int) := ⟨_, rfl⟩
      rw [← hrow] at q1 q2 q3 hrl
      have htk : l0.take k ++ [row] = l0.take (k + 1) := by rw [List.take_succ_eq_append_getElem hlt, hrow, rdL_get l0 k hlt]
      have hlk : (l0.take k).length = k := by rw [List.length_take]; omega
      generalize l0.take k = tk at *
      obtain ⟨Ao, co, rfl⟩ := Kd.S_slice HS.out
      have Q3 := Lib.hid q3; have HTK := Lib.hid htk; have HLK := Lib.hid hlk; have HBW := Lib.hid HB.out.size
      have hbl : row.length * 8 ≤ 140737488355328 := by omega
      have hbl2 : (tk.length + 1) * 24 ≤ 140737488355328 := by omega
      have hbl3 : row.length ≤ 1000 := hrl
      clear q3 hrow htk hlk hrl
      go_wp2_with (first
        | (((with_reducible refine gate_builtin (b := .append) (xs := #[.const (.slice none 0 0), .tmp 15]) rfl ?_); at_builtin; refine Kd.R_append_rows (Kd.int .i64) (Rr := (Kd.int .i64).K wr) (w0 := wr) w.heap.size rfl _ _ 32 3 (.int .i64 0) 8 rfl Try.underlying32 info3 rfl (by decide) (by omega) (.slice none 0 0) [] row A1 row.length c1 (fun q => wr.heap.size ≤ q) (fun _ => False) rfl rfl (Kd.R_nil _ _ _ _ _) Q3.out (fun _ _ h => h) (fun _ h => h.elim) (fun _ h => h) (Below.refl _ _) HBW.out (by simp; omega) ?_; intro v2 w2 hr2 hb2 hg2 hat2; rw [List.nil_append] at hr2; obtain ⟨A2, c2, rfl⟩ := Kd.R_slice hr2; have hBz : Below wr.heap.size wr w2 := ((Below.refl _ _).grown hg2 (Nat.le_refl _) (fun k e => by simp [Value.ownBlock] at e)); have HS2 := Lib.hid (Kd.S_mono (ok' := fun q => True ∧ ¬ wr.heap.size ≤ q) (Kd.S_below (Kd.S_bound HS.out) hBz) (fun q hq => ⟨trivial, by have := hq.2.2.1; omega⟩)); have HVL := Lib.hid (Kd.S_lt HS.out); have HR2 := Lib.hid hr2; have HB2 := Lib.hid (HB.out.trans (hBz.mono HBW.out)); have HBW2 := Lib.hid HB2.out.size; clear hr2 hb2 hg2 hat2 hBz))
        | (((with_reducible refine gate_builtin (b := .append) (xs := #[.tmp 11, .tmp 17]) rfl ?_); at_builtin; refine Kd.S_append (Kd.slice 3 (Kd.int .i64)) (w0 := w2) w.heap.size rfl (.tmp 11) (.tmp 17) 22 32 (.slice none 0 0) 24 rfl Try.underlying22 info32 rfl (by decide) (by omega) (.slice Ao tk.length co) tk row [.slice A2 row.length c2] (fun _ => True) (fun z => wr.heap.size ≤ z) rfl rfl (Kd.M_row HR2.out) (fun z hz => ⟨trivial, fun e => by have := HVL.out z e.symm; omega⟩) (fun _ _ => trivial) HS2.out (Below.refl _ _) HBW2.out hbl2 ?_; intro v9 w9 hS9 hb9 hg9 hat9; obtain ⟨A9, c9, rfl⟩ := Kd.S_slice hS9; have HS9 := Lib.hid hS9; have HB9 := Lib.hid (HB2.out.trans hb9); clear hS9 hb9 hg9 hat9)))
      all_goals
        refine ⟨⟨k + 1, by omega, by go_num, ?_, HB9⟩, by simp [intOf]; omega⟩
        have h9 := HS9.out
        rw [HTK.out] at h9
        rw [show (l0.take (k + 1)).length = tk.length + 1 by rw [← HTK.out]; simp] at h9
        exact h9
    · obtain rfl : k = l0.length := by omega
      obtain ⟨Ao, co, rfl⟩ := Kd.S_slice HS.out
      go_wp2
      go_ret
      exact ⟨_, rfl, by have h9 := HS.out; rw [List.take_length] at h9; first | exact h9 | (rw [List.take_length]; exact h9), HB.out⟩
end Go.Proofs.Ytpbemjdaanlaoaa.Pr
