/- Printed out of the translation by the kit's print.py: contracts of fippleref08_CheckFalls. -/
import Derived.Test.YtpbemjdaanlaoaaPr0
import Derived.Test.YtpbemjdaanlaoaaPr1
import Derived.Test.YtpbemjdaanlaoaaN2
namespace Go.Proofs.Ytpbemjdaanlaoaa.Pr
open Go.RowKit Go.Proofs.YtpbemjdaanlaoaaW.PrintWords Go.Proofs.YtpbemjdaanlaoaaW.PrintLast Go.Proofs.YtpbemjdaanlaoaaW.PrintMore
attribute [local go_sem] max2_int min2_int max_two min_two max_three min_three max_four min_four   -- for this text's walks alone
set_option linter.unusedVariables false
set_option linter.unusedSimpArgs false
/-! ### fippleref08_CheckFalls: function 40 -/
mutual
def fippleref08_CheckFalls.l0 : Nat → List Int → List (List Int) → List Int → Int → Option (Int × Int)
 | 0, _, _, _, _ => none
 | k + 1, x0, x1, x6, x7 => if x7 < (x6.length : Int) then (if 0 ≤ x7 then (if (rd x6 x7) < 0 then (some (0, 3)) else (if (rd x6 x7) ≥ (x0.length : Int) then (some (0, 3)) else (fippleref08_CheckFalls.l0 k x0 x1 x6 (wrap64 (x7 + 1))))) else (none)) else (fippleref08_CheckFalls.l1 k x0 x1 x6 0)
def fippleref08_CheckFalls.l1 : Nat → List Int → List (List Int) → List Int → Int → Option (Int × Int)
 | 0, _, _, _, _ => none
 | k + 1, x0, x1, x6, x8 => if x8 < (x1.length : Int) then (if 0 ≤ x8 then (if ((rd_L1 x1 x8).length : Int) = 0 then (some (0, 15)) else (fippleref08_CheckFalls.l1 k x0 x1 x6 (wrap64 (x8 + 1)))) else (none)) else (fippleref08_CheckFalls.l2 k x0 x1 x6 0)
def fippleref08_CheckFalls.l2 : Nat → List Int → List (List Int) → List Int → Int → Option (Int × Int)
 | 0, _, _, _, _ => none
 | k + 1, x0, x1, x6, x9 => if x9 < (x6.length : Int) then (if 0 ≤ x9 then (if x9 ≤ (x6.length : Int) then ((fippleref08_Has.f k (x6.take (x9 : Int).toNat) (rd x6 x9)).bind fun t229 => (if t229 = true then (some (0, 15)) else (fippleref08_CheckFalls.l2 k x0 x1 x6 (wrap64 (x9 + 1))))) else (none)) else (none)) else (if (x6.length : Int) = (x0.length : Int) then (fippleref08_CheckFalls.l3 k x0 x1 0) else (some (0, 15)))
def fippleref08_CheckFalls.l3 : Nat → List Int → List (List Int) → Int → Option (Int × Int)
 | 0, _, _, _ => none
 | k + 1, x0, x1, x10 => if x10 < (x1.length : Int) then (fippleref08_CheckFalls.l4 k x0 x1 x10 1) else (some ((x1.length : Int), 0))
def fippleref08_CheckFalls.l4 : Nat → List Int → List (List Int) → Int → Int → Option (Int × Int)
 | 0, _, _, _, _ => none
 | k + 1, x0, x1, x10, x11 => if 0 ≤ x10 then (if x10 < (x1.length : Int) then (if x11 < ((rd_L1 x1 x10).length : Int) then (if 0 ≤ x11 then (if 0 ≤ (wrap64 (x11 - 1)) then (if (wrap64 (x11 - 1)) < ((rd_L1 x1 x10).length : Int) then (if (rd (rd_L1 x1 x10) x11) ≤ (rd (rd_L1 x1 x10) (wrap64 (x11 - 1))) then (some (0, 22)) else (if 0 ≤ (rd (rd_L1 x1 x10) x11) then (if (rd (rd_L1 x1 x10) x11) < (x0.length : Int) then (if 0 ≤ (rd (rd_L1 x1 x10) (wrap64 (x11 - 1))) then (if (rd (rd_L1 x1 x10) (wrap64 (x11 - 1))) < (x0.length : Int) then (if (rd x0 (rd (rd_L1 x1 x10) x11)) ≥ (rd x0 (rd (rd_L1 x1 x10) (wrap64 (x11 - 1)))) then (some (0, 22)) else (fippleref08_CheckFalls.l4 k x0 x1 x10 (wrap64 (x11 + 1)))) else (none)) else (none)) else (none)) else (none))) else (none)) else (none)) else (none)) else (fippleref08_CheckFalls.l3 k x0 x1 (wrap64 (x10 + 1)))) else (none)) else (none)
end
def fippleref08_CheckFalls.f (k : Nat) (l0 : List Int) (l1 : List (List Int)) : Option (Int × Int) := (fippleref08_CheckSequence.f k l0).bind fun t216 => (if t216 = 0 then ((fippleref08_all.f k l1).bind fun t218 => (fippleref08_CheckFalls.l0 k l0 l1 t218 0)) else ((fippleref08_CheckSequence.f k l0).bind fun t217 => (some (0, t217))))
theorem fippleref08_CheckFalls.mono_l : ∀ k, (∀ y0 y1 y2 y3, LeO (fippleref08_CheckFalls.l0 k y0 y1 y2 y3) (fippleref08_CheckFalls.l0 (k + 1) y0 y1 y2 y3)) ∧ (∀ y0 y1 y2 y3, LeO (fippleref08_CheckFalls.l1 k y0 y1 y2 y3) (fippleref08_CheckFalls.l1 (k + 1) y0 y1 y2 y3)) ∧ (∀ y0 y1 y2 y3, LeO (fippleref08_CheckFalls.l2 k y0 y1 y2 y3) (fippleref08_CheckFalls.l2 (k + 1) y0 y1 y2 y3)) ∧ (∀ y0 y1 y2, LeO (fippleref08_CheckFalls.l3 k y0 y1 y2) (fippleref08_CheckFalls.l3 (k + 1) y0 y1 y2)) ∧ (∀ y0 y1 y2 y3, LeO (fippleref08_CheckFalls.l4 k y0 y1 y2 y3) (fippleref08_CheckFalls.l4 (k + 1) y0 y1 y2 y3))
 | 0 => ⟨fun _ _ _ _ r h => by simp [fippleref08_CheckFalls.l0] at h, fun _ _ _ _ r h => by simp [fippleref08_CheckFalls.l1] at h, fun _ _ _ _ r h => by simp [fippleref08_CheckFalls.l2] at h, fun _ _ _ r h => by simp [fippleref08_CheckFalls.l3] at h, fun _ _ _ _ r h => by simp [fippleref08_CheckFalls.l4] at h⟩
 | k + 1 => by
  obtain ⟨ih0, ih1, ih2, ih3, ih4⟩ := fippleref08_CheckFalls.mono_l k
  refine ⟨?_, ?_, ?_, ?_, ?_⟩
  ·
   intro y0 y1 y2 y3
   unfold fippleref08_CheckFalls.l0
   repeat' first
   | (with_reducible exact ih0 _ _ _ _)
   | (with_reducible exact ih1 _ _ _ _)
   | (with_reducible exact ih2 _ _ _ _)
   | (with_reducible exact ih3 _ _ _)
   | (with_reducible exact ih4 _ _ _ _)
   | (with_reducible exact fippleref08_CheckSequence.mono _ _)
   | (with_reducible exact fippleref08_Has.mono _ _ _)
   | (with_reducible exact fippleref08_all.mono _ _)
   | (with_reducible exact LeO.refl _)
   | (with_reducible exact LeO.none _)
   | (with_reducible refine LeO.ite ?_ ?_)
   | (with_reducible refine LeO.bind ?_ (fun _ => ?_))
   | exact ih0 _ _ _ _
   | exact ih1 _ _ _ _
   | exact ih2 _ _ _ _
   | exact ih3 _ _ _
   | exact ih4 _ _ _ _
   | exact fippleref08_CheckSequence.mono _ _
   | exact fippleref08_Has.mono _ _ _
   | exact fippleref08_all.mono _ _
   | exact LeO.none _
   | refine LeO.ite ?_ ?_
   | refine LeO.bind ?_ (fun _ => ?_)
  ·
   intro y0 y1 y2 y3
   unfold fippleref08_CheckFalls.l1
   repeat' first
   | (with_reducible exact ih0 _ _ _ _)
   | (with_reducible exact ih1 _ _ _ _)
   | (with_reducible exact ih2 _ _ _ _)
   | (with_reducible exact ih3 _ _ _)
   | (with_reducible exact ih4 _ _ _ _)
   | (with_reducible exact fippleref08_CheckSequence.mono _ _)
   | (with_reducible exact fippleref08_Has.mono _ _ _)
   | (with_reducible exact fippleref08_all.mono _ _)
   | (with_reducible exact LeO.refl _)
   | (with_reducible exact LeO.none _)
   | (with_reducible refine LeO.ite ?_ ?_)
   | (with_reducible refine LeO.bind ?_ (fun _ => ?_))
   | exact ih0 _ _ _ _
   | exact ih1 _ _ _ _
   | exact ih2 _ _ _ _
   | exact ih3 _ _ _
   | exact ih4 _ _ _ _
   | exact fippleref08_CheckSequence.mono _ _
   | exact fippleref08_Has.mono _ _ _
   | exact fippleref08_all.mono _ _
   | exact LeO.none _
   | refine LeO.ite ?_ ?_
   | refine LeO.bind ?_ (fun _ => ?_)
  ·
   intro y0 y1 y2 y3
   unfold fippleref08_CheckFalls.l2
   repeat' first
   | (with_reducible exact ih0 _ _ _ _)
   | (with_reducible exact ih1 _ _ _ _)
   | (with_reducible exact ih2 _ _ _ _)
   | (with_reducible exact ih3 _ _ _)
   | (with_reducible exact ih4 _ _ _ _)
   | (with_reducible exact fippleref08_CheckSequence.mono _ _)
   | (with_reducible exact fippleref08_Has.mono _ _ _)
   | (with_reducible exact fippleref08_all.mono _ _)
   | (with_reducible exact LeO.refl _)
   | (with_reducible exact LeO.none _)
   | (with_reducible refine LeO.ite ?_ ?_)
   | (with_reducible refine LeO.bind ?_ (fun _ => ?_))
   | exact ih0 _ _ _ _
   | exact ih1 _ _ _ _
   | exact ih2 _ _ _ _
   | exact ih3 _ _ _
   | exact ih4 _ _ _ _
   | exact fippleref08_CheckSequence.mono _ _
   | exact fippleref08_Has.mono _ _ _
   | exact fippleref08_all.mono _ _
   | exact LeO.none _
   | refine LeO.ite ?_ ?_
   | refine LeO.bind ?_ (fun _ => ?_)
  ·
   intro y0 y1 y2
   unfold fippleref08_CheckFalls.l3
   repeat' first
   | (with_reducible exact ih0 _ _ _ _)
   | (with_reducible exact ih1 _ _ _ _)
   | (with_reducible exact ih2 _ _ _ _)
   | (with_reducible exact ih3 _ _ _)
   | (with_reducible exact ih4 _ _ _ _)
   | (with_reducible exact fippleref08_CheckSequence.mono _ _)
   | (with_reducible exact fippleref08_Has.mono _ _ _)
   | (with_reducible exact fippleref08_all.mono _ _)
   | (with_reducible exact LeO.refl _)
   | (with_reducible exact LeO.none _)
   | (with_reducible refine LeO.ite ?_ ?_)
   | (with_reducible refine LeO.bind ?_ (fun _ => ?_))
   | exact ih0 _ _ _ _
   | exact ih1 _ _ _ _
   | exact ih2 _ _ _ _
   | exact ih3 _ _ _
   | exact ih4 _ _ _ _
   | exact fippleref08_CheckSequence.mono _ _
   | exact fippleref08_Has.mono _ _ _
   | exact fippleref08_all.mono _ _
   | exact LeO.none _
   | refine LeO.ite ?_ ?_
   | refine LeO.bind ?_ (fun _ => ?_)
  ·
   intro y0 y1 y2 y3
   unfold fippleref08_CheckFalls.l4
   repeat' first
   | (with_reducible exact ih0 _ _ _ _)
   | (with_reducible exact ih1 _ _ _ _)
   | (with_reducible exact ih2 _ _ _ _)
   | (with_reducible exact ih3 _ _ _)
   | (with_reducible exact ih4 _ _ _ _)
   | (with_reducible exact fippleref08_CheckSequence.mono _ _)
   | (with_reducible exact fippleref08_Has.mono _ _ _)
   | (with_reducible exact fippleref08_all.mono _ _)
   | (with_reducible exact LeO.refl _)
   | (with_reducible exact LeO.none _)
   | (with_reducible refine LeO.ite ?_ ?_)
   | (with_reducible refine LeO.bind ?_ (fun _ => ?_))
   | exact ih0 _ _ _ _
   | exact ih1 _ _ _ _
   | exact ih2 _ _ _ _
   | exact ih3 _ _ _
   | exact ih4 _ _ _ _
   | exact fippleref08_CheckSequence.mono _ _
   | exact fippleref08_Has.mono _ _ _
   | exact fippleref08_all.mono _ _
   | exact LeO.none _
   | refine LeO.ite ?_ ?_
   | refine LeO.bind ?_ (fun _ => ?_)
theorem fippleref08_CheckFalls.mono : ∀ a0 a1 k, LeO (fippleref08_CheckFalls.f k a0 a1) (fippleref08_CheckFalls.f (k + 1) a0 a1) := by
 intro a0 a1 k
 obtain ⟨ih0, ih1, ih2, ih3, ih4⟩ := fippleref08_CheckFalls.mono_l k
 unfold fippleref08_CheckFalls.f
 repeat' first
   | (with_reducible exact ih0 _ _ _ _)
   | (with_reducible exact ih1 _ _ _ _)
   | (with_reducible exact ih2 _ _ _ _)
   | (with_reducible exact ih3 _ _ _)
   | (with_reducible exact ih4 _ _ _ _)
   | (with_reducible exact fippleref08_CheckSequence.mono _ _)
   | (with_reducible exact fippleref08_Has.mono _ _ _)
   | (with_reducible exact fippleref08_all.mono _ _)
   | (with_reducible exact LeO.refl _)
   | (with_reducible exact LeO.none _)
   | (with_reducible refine LeO.ite ?_ ?_)
   | (with_reducible refine LeO.bind ?_ (fun _ => ?_))
   | exact ih0 _ _ _ _
   | exact ih1 _ _ _ _
   | exact ih2 _ _ _ _
   | exact ih3 _ _ _
   | exact ih4 _ _ _ _
   | exact fippleref08_CheckSequence.mono _ _
   | exact fippleref08_Has.mono _ _ _
   | exact fippleref08_all.mono _ _
   | exact LeO.none _
   | refine LeO.ite ?_ ?_
   | refine LeO.bind ?_ (fun _ => ?_)
set_option maxHeartbeats 8000000 in
set_option maxRecDepth 100000 in
theorem fippleref08_CheckFalls.calls (k : Nat) (A0 : Option Addr) (c0 : Nat) (l0 : List Int) (A1 : Option Addr) (c1 : Nat) (l1 : List (List Int)) (r1 : Int) (r2 : Int) (w : World) (hr0 : Kd.C (Kd.int .i64) w A0 l0.length l0) (hc0 : l0.length ≤ c0) (hr1 : Kd.C (Kd.slice 3 (Kd.int .i64)) w A1 l1.length l1) (hc1 : l1.length ≤ c1) (h : fippleref08_CheckFalls.f k l0 l1 = some (r1, r2)) :
  Calls Try.prog 40 #[.slice A0 l0.length c0, .slice A1 l1.length c1] w fun e w' => e = .returned (.tuple #[.int .i64 r1, .int .i64 r2]) ∧ Below w.heap.size w w' := by
 have HR0 := Aside0.mk hr0
 have HC0 := Aside0.mk hc0
 clear hr0 hc0
 have HR1 := Aside0.mk hr1
 have HC1 := Aside0.mk hc1
 clear hr1 hc1
 have HB := Aside0.mk (Below.refl w.heap.size w)
 have H : ((fippleref08_CheckSequence.f k l0).bind fun t216 => (if t216 = 0 then ((fippleref08_all.f k l1).bind fun t218 => (fippleref08_CheckFalls.l0 k l0 l1 t218 0)) else ((fippleref08_CheckSequence.f k l0).bind fun t217 => (some (0, t217))))) = some (r1, r2) := h
 clear h
 replace H := Option.bind_eq_some_iff.mp H
 obtain ⟨t216, A30, H⟩ := H
 replace H : (if t216 = 0 then ((fippleref08_all.f k l1).bind fun t218 => (fippleref08_CheckFalls.l0 k l0 l1 t218 0)) else ((fippleref08_CheckSequence.f k l0).bind fun t217 => (some (0, t217)))) = some (r1, r2) := H
 have A3 := Aside0.mk A30
 clear A30
 by_cases c4 : t216 = 0
 ·
  rw [if_pos c4] at H
  have c4b0 : (t216 == 0) = true := beq_iff_eq.mpr c4
  have c4b1 : (t216 != 0) = false := bne_eq_false_iff_eq.mpr c4
  clear c4
  replace H := Option.bind_eq_some_iff.mp H
  obtain ⟨t218, A50, H⟩ := H
  replace H : (fippleref08_CheckFalls.l0 k l0 l1 t218 0) = some (r1, r2) := H
  have A5 := Aside0.mk A50
  clear A50
  have H' := Aside0.mk H
  clear H
  go_enter Try.func40, Try.ntmps40
  go_wp2_with (first | (go_at_call 24; (with_reducible refine (fippleref08_CheckSequence.calls k _ _ l0 t216 _ ?side1 ?side2 A3.out).mono ?_); (case side1 => repeat (first | exact HR0.out | (with_reducible refine Kd.C_alloc ?_ _) | (with_reducible refine Kd.C_drewN ?_ _) | (with_reducible refine Kd.C_drew ?_))); (case side2 => exact HC0.out); rintro e w' ⟨rfl, ⟨nd, rfl⟩⟩; (try first | exact ⟨rfl, _, World.drewN_drewN _ _ _⟩ | exact ⟨rfl, _, Eq.trans (World.drewN_drewN _ _ _) (congrArg (World.drewN _) (Nat.add_assoc _ _ _))⟩)) | (go_at_call 45; (with_reducible refine (fippleref08_all.calls k _ _ l1 t218 _ ?side1 ?side2 A5.out).mono ?_); (case side1 => repeat (first | exact HR1.out | (with_reducible refine Kd.C_alloc ?_ _) | (with_reducible refine Kd.C_drewN ?_ _) | (with_reducible refine Kd.C_drew ?_))); (case side2 => exact HC1.out); rintro e w6 ⟨v219, rfl, ho0, hb⟩; have n0_ := Aside0.mk (Kd.R_lower ho0 (below_size (by repeat (first | (with_reducible first | exact HB.out | apply below_alloc | apply pw_below_drewN | apply below_drew1) | exact HB.out)))); have n1_ := Aside0.mk (below_step (by repeat (first | (with_reducible first | exact HB.out | apply below_alloc | apply pw_below_drewN | apply below_drew1) | exact HB.out)) hb); clear HB; have HO220 := n0_; have HB := n1_; clear n0_ n1_; (try clear hb); (try clear hb2); (try clear hk); (try clear hi); (try clear ho0)))
  repeat (go_quiet (first | (go_at_call 24; (with_reducible refine (fippleref08_CheckSequence.calls k _ _ l0 t216 _ ?side1 ?side2 A3.out).mono ?_); (case side1 => repeat (first | exact HR0.out | (with_reducible refine Kd.C_alloc ?_ _) | (with_reducible refine Kd.C_drewN ?_ _) | (with_reducible refine Kd.C_drew ?_))); (case side2 => exact HC0.out); rintro e w' ⟨rfl, ⟨nd, rfl⟩⟩; (try first | exact ⟨rfl, _, World.drewN_drewN _ _ _⟩ | exact ⟨rfl, _, Eq.trans (World.drewN_drewN _ _ _) (congrArg (World.drewN _) (Nat.add_assoc _ _ _))⟩)) | (go_at_call 45; (with_reducible refine (fippleref08_all.calls k _ _ l1 t218 _ ?side1 ?side2 A5.out).mono ?_); (case side1 => repeat (first | exact HR1.out | (with_reducible refine Kd.C_alloc ?_ _) | (with_reducible refine Kd.C_drewN ?_ _) | (with_reducible refine Kd.C_drew ?_))); (case side2 => exact HC1.out); rintro e w6 ⟨v219, rfl, ho0, hb⟩; have n0_ := Aside0.mk (Kd.R_lower ho0 (below_size (by repeat (first | (with_reducible first | exact HB.out | apply below_alloc | apply pw_below_drewN | apply below_drew1) | exact HB.out)))); have n1_ := Aside0.mk (below_step (by repeat (first | (with_reducible first | exact HB.out | apply below_alloc | apply pw_below_drewN | apply below_drew1) | exact HB.out)) hb); clear HB; have HO220 := n0_; have HB := n1_; clear n0_ n1_; (try clear hb); (try clear hb2); (try clear hk); (try clear hi); (try clear ho0))); try go_wp2_with (first | (go_at_call 24; (with_reducible refine (fippleref08_CheckSequence.calls k _ _ l0 t216 _ ?side1 ?side2 A3.out).mono ?_); (case side1 => repeat (first | exact HR0.out | (with_reducible refine Kd.C_alloc ?_ _) | (with_reducible refine Kd.C_drewN ?_ _) | (with_reducible refine Kd.C_drew ?_))); (case side2 => exact HC0.out); rintro e w' ⟨rfl, ⟨nd, rfl⟩⟩; (try first | exact ⟨rfl, _, World.drewN_drewN _ _ _⟩ | exact ⟨rfl, _, Eq.trans (World.drewN_drewN _ _ _) (congrArg (World.drewN _) (Nat.add_assoc _ _ _))⟩)) | (go_at_call 45; (with_reducible refine (fippleref08_all.calls k _ _ l1 t218 _ ?side1 ?side2 A5.out).mono ?_); (case side1 => repeat (first | exact HR1.out | (with_reducible refine Kd.C_alloc ?_ _) | (with_reducible refine Kd.C_drewN ?_ _) | (with_reducible refine Kd.C_drew ?_))); (case side2 => exact HC1.out); rintro e w6 ⟨v219, rfl, ho0, hb⟩; have n0_ := Aside0.mk (Kd.R_lower ho0 (below_size (by repeat (first | (with_reducible first | exact HB.out | apply below_alloc | apply pw_below_drewN | apply below_drew1) | exact HB.out)))); have n1_ := Aside0.mk (below_step (by repeat (first | (with_reducible first | exact HB.out | apply below_alloc | apply pw_below_drewN | apply below_drew1) | exact HB.out)) hb); clear HB; have HO220 := n0_; have HB := n1_; clear n0_ n1_; (try clear hb); (try clear hb2); (try clear hk); (try clear hi); (try clear ho0))))
  go_loopg [7] k (fun kq v7 w' => ∃ (x7_1 : Int), v7 = .int .i64 x7_1 ∧ Aside0 (fippleref08_CheckFalls.l0 kq l0 l1 t218 x7_1 = some (r1, r2)) ∧ Aside0 (kq ≤ k) ∧ Aside0 (Kd.R (Kd.int .i64) 3 w' w.heap.size (fun _ => True) v219 t218) ∧ Aside0 (Below w.heap.size w w'))
  case atStart => exact ⟨(0), (by first | rfl | (simp; done) | (simp [*]; done)), H', ⟨Nat.le_refl _⟩, ⟨by (with_reducible repeat (first | apply Kd.R_alloc | apply Kd.R_drewN | apply Kd.R_drew)); exact HO220.out⟩, ⟨by repeat (first | (with_reducible first | exact HB.out | apply below_alloc | apply pw_below_drewN | apply below_drew1) | exact HB.out)⟩⟩
  case round =>
   clear H'
   try clear c1
   try clear p2
   try clear c4
   try clear c4b0
   try clear c4b1
   obtain ⟨x7_1, rfl, HA, HK1, HO_6, HB⟩ := hrel
   cases gk with
   | zero => exact absurd HA.out (by simp [fippleref08_CheckFalls.l0])
   | succ k1 =>
    have H := HA.out
    clear HA
    simp only [fippleref08_CheckFalls.l0] at H
    by_cases c7 : x7_1 < (t218.length : Int)
    ·
     rw [if_pos c7] at H
     have c7b0 : decide (x7_1 < (t218.length : Int)) = true := decide_eq_true c7
     clear c7
     by_cases c8 : 0 ≤ x7_1
     ·
      rw [if_pos c8] at H
      have c8b0 : decide (0 ≤ x7_1) = true := decide_eq_true c8
      clear c8
      by_cases c9 : (rd t218 x7_1) < 0
      ·
       rw [if_pos c9] at H
       have c9b0 : decide ((rd t218 x7_1) < 0) = true := decide_eq_true c9
       clear c9
       simp only [Option.some.injEq, Prod.mk.injEq] at H
       obtain ⟨rfl, rfl⟩ := H
       obtain ⟨Ao10, co10, eo10⟩ := Kd.R_slice HO_6.out
       subst eo10
       have p221 : 0 ≤ (x7_1 : Int) := of_decide_eq_true (by first | (with_reducible assumption) | assumption)
       have q221 : x7_1 < (t218.length : Int) := of_decide_eq_true (by first | (with_reducible assumption) | assumption)
       obtain ⟨ad221, e221, hx221_0⟩ := Kd.at_int (Kd.R_reads' HO_6.out).2.2 x7_1 p221 q221
       cases e221
       replace p221 := eq_true p221
       replace q221 := eq_true q221
       go_wp2
       repeat (go_quiet (fail); try go_wp2)
       go_ret2
       exact ⟨by first | rfl | (simp [errW_none, errW_some] <;> rfl) | (simp [*, errW_none, errW_some] <;> rfl), by repeat (first | (with_reducible first | exact HB.out | apply below_alloc | apply pw_below_drewN | apply below_drew1) | exact HB.out)⟩
      ·
       rw [if_neg c9] at H
       have c9b0 : decide ((rd t218 x7_1) < 0) = false := decide_eq_false c9
       clear c9
       by_cases c11 : (rd t218 x7_1) ≥ (l0.length : Int)
       ·
        rw [if_pos c11] at H
        have c11b0 : decide ((l0.length : Int) ≤ (rd t218 x7_1)) = true := decide_eq_true c11
        clear c11
        simp only [Option.some.injEq, Prod.mk.injEq] at H
        obtain ⟨rfl, rfl⟩ := H
        obtain ⟨Ao12, co12, eo12⟩ := Kd.R_slice HO_6.out
        subst eo12
        have p221 : 0 ≤ (x7_1 : Int) := of_decide_eq_true (by first | (with_reducible assumption) | assumption)
        have q221 : x7_1 < (t218.length : Int) := of_decide_eq_true (by first | (with_reducible assumption) | assumption)
        obtain ⟨ad221, e221, hx221_0⟩ := Kd.at_int (Kd.R_reads' HO_6.out).2.2 x7_1 p221 q221
        cases e221
        replace p221 := eq_true p221
        replace q221 := eq_true q221
        have p222 : 0 ≤ (x7_1 : Int) := of_decide_eq_true (by first | (with_reducible assumption) | assumption)
        have q222 : x7_1 < (t218.length : Int) := of_decide_eq_true (by first | (with_reducible assumption) | assumption)
        obtain ⟨ad222, e222, hx222_0⟩ := Kd.at_int (Kd.R_reads' HO_6.out).2.2 x7_1 p222 q222
        obtain rfl : ad221 = ad222 := (by injection e222)
        replace p222 := eq_true p222
        replace q222 := eq_true q222
        go_wp2
        repeat (go_quiet (fail); try go_wp2)
        go_ret2
        exact ⟨by first | rfl | (simp [errW_none, errW_some] <;> rfl) | (simp [*, errW_none, errW_some] <;> rfl), by repeat (first | (with_reducible first | exact HB.out | apply below_alloc | apply pw_below_drewN | apply below_drew1) | exact HB.out)⟩
       ·
        rw [if_neg c11] at H
        have c11b0 : decide ((l0.length : Int) ≤ (rd t218 x7_1)) = false := decide_eq_false c11
        clear c11
        have H' := Aside0.mk H
        clear H
        obtain ⟨Ao13, co13, eo13⟩ := Kd.R_slice HO_6.out
        subst eo13
        have p221 : 0 ≤ (x7_1 : Int) := of_decide_eq_true (by first | (with_reducible assumption) | assumption)
        have q221 : x7_1 < (t218.length : Int) := of_decide_eq_true (by first | (with_reducible assumption) | assumption)
        obtain ⟨ad221, e221, hx221_0⟩ := Kd.at_int (Kd.R_reads' HO_6.out).2.2 x7_1 p221 q221
        cases e221
        replace p221 := eq_true p221
        replace q221 := eq_true q221
        have p222 : 0 ≤ (x7_1 : Int) := of_decide_eq_true (by first | (with_reducible assumption) | assumption)
        have q222 : x7_1 < (t218.length : Int) := of_decide_eq_true (by first | (with_reducible assumption) | assumption)
        obtain ⟨ad222, e222, hx222_0⟩ := Kd.at_int (Kd.R_reads' HO_6.out).2.2 x7_1 p222 q222
        obtain rfl : ad221 = ad222 := (by injection e222)
        replace p222 := eq_true p222
        replace q222 := eq_true q222
        go_wp2
        repeat (go_quiet (fail); try go_wp2)
        go_roundg k1
        case measure => have := HK1.out; omega
        case rel => exact ⟨(wrap64 (x7_1 + 1)), (by first | rfl | (simp; done) | (simp [*]; done)), H', ⟨by have := HK1.out; omega⟩, ⟨by (with_reducible repeat (first | apply Kd.R_alloc | apply Kd.R_drewN | apply Kd.R_drew)); exact HO_6.out⟩, ⟨by repeat (first | (with_reducible first | exact HB.out | apply below_alloc | apply pw_below_drewN | apply below_drew1) | exact HB.out)⟩⟩
     ·
      rw [if_neg c8] at H
      exact absurd H (by simp)
    ·
     rw [if_neg c7] at H
     have c7b0 : decide (x7_1 < (t218.length : Int)) = false := decide_eq_false c7
     clear c7
     have H' := Aside0.mk H
     clear H
     obtain ⟨Ao14, co14, eo14⟩ := Kd.R_slice HO_6.out
     subst eo14
     go_wp2
     repeat (go_quiet (fail); try go_wp2)
     go_loopg [8] k1 (fun kq v8 w' => ∃ (x8_2 : Int), v8 = .int .i64 x8_2 ∧ Aside0 (fippleref08_CheckFalls.l1 kq l0 l1 t218 x8_2 = some (r1, r2)) ∧ Aside0 (kq ≤ k1) ∧ Aside0 (Kd.R (Kd.int .i64) 3 w' w.heap.size (fun _ => True) (.slice Ao14 t218.length co14) t218) ∧ Aside0 (Below w.heap.size w w'))
     case atStart => exact ⟨(0), (by first | rfl | (simp; done) | (simp [*]; done)), H', ⟨Nat.le_refl _⟩, ⟨by (with_reducible repeat (first | apply Kd.R_alloc | apply Kd.R_drewN | apply Kd.R_drew)); exact HO_6.out⟩, ⟨by repeat (first | (with_reducible first | exact HB.out | apply below_alloc | apply pw_below_drewN | apply below_drew1) | exact HB.out)⟩⟩
     case round =>
      clear H'
      try clear c1
      try clear p2
      try clear q2
      try clear hx2
      try clear c4
      try clear c4b0
      try clear c4b1
      try clear p6
      try clear c7
      try clear c7b0
      try clear c8
      try clear c8b0
      try clear c9
      try clear c9b0
      try clear c11
      try clear c11b0
      try clear hx221_0
      try clear hx222_0
      try clear p2
      try clear p221
      try clear p222
      try clear q221
      try clear q222
      obtain ⟨x8_2, rfl, HA, HK2, HO_6, HB⟩ := hrel
      cases gk with
      | zero => exact absurd HA.out (by simp [fippleref08_CheckFalls.l1])
      | succ k2 =>
       have H := HA.out
       clear HA
       simp only [fippleref08_CheckFalls.l1] at H
       by_cases c15 : x8_2 < (l1.length : Int)
       ·
        rw [if_pos c15] at H
        have c15b0 : decide (x8_2 < (l1.length : Int)) = true := decide_eq_true c15
        clear c15
        by_cases c16 : 0 ≤ x8_2
        ·
         rw [if_pos c16] at H
         have c16b0 : decide (0 ≤ x8_2) = true := decide_eq_true c16
         clear c16
         by_cases c17 : ((rd_L1 l1 x8_2).length : Int) = 0
         ·
          rw [if_pos c17] at H
          have c17b0 : (((rd_L1 l1 x8_2).length : Int) == 0) = true := beq_iff_eq.mpr c17
          have c17b1 : (((rd_L1 l1 x8_2).length : Int) != 0) = false := bne_eq_false_iff_eq.mpr c17
          clear c17
          simp only [Option.some.injEq, Prod.mk.injEq] at H
          obtain ⟨rfl, rfl⟩ := H
          have p223 : 0 ≤ (x8_2 : Int) := of_decide_eq_true (by first | (with_reducible assumption) | assumption)
          have q223 : x8_2 < (l1.length : Int) := of_decide_eq_true (by first | (with_reducible assumption) | assumption)
          obtain ⟨ad223, A223_0, c223_0, e223, hx223_0, hl223_0, hi223_0⟩ := at_L1 HR1.out x8_2 p223 q223
          cases e223
          replace hx223_0 := (HB.out.cell (World.block_lt_of_cell? w _ hx223_0)).trans hx223_0
          have HR223_0 := Aside0.mk hi223_0
          have HC223_0 := Aside0.mk hl223_0
          clear hi223_0 hl223_0
          replace p223 := eq_true p223
          replace q223 := eq_true q223
          go_wp2
          repeat (go_quiet (fail); try go_wp2)
          go_ret2
          exact ⟨by first | rfl | (simp [errW_none, errW_some] <;> rfl) | (simp [*, errW_none, errW_some] <;> rfl), by repeat (first | (with_reducible first | exact HB.out | apply below_alloc | apply pw_below_drewN | apply below_drew1) | exact HB.out)⟩
         ·
          rw [if_neg c17] at H
          have c17b0 : (((rd_L1 l1 x8_2).length : Int) == 0) = false := beq_eq_false_iff_ne.mpr c17
          have c17b1 : (((rd_L1 l1 x8_2).length : Int) != 0) = true := bne_iff_ne.mpr c17
          have c17b2 : ¬ ((rd_L1 l1 x8_2) = []) := fun h_ => c17 (by rw [h_]; rfl)
          have H' := Aside0.mk H
          clear H
          have p223 : 0 ≤ (x8_2 : Int) := of_decide_eq_true (by first | (with_reducible assumption) | assumption)
          have q223 : x8_2 < (l1.length : Int) := of_decide_eq_true (by first | (with_reducible assumption) | assumption)
          obtain ⟨ad223, A223_0, c223_0, e223, hx223_0, hl223_0, hi223_0⟩ := at_L1 HR1.out x8_2 p223 q223
          cases e223
          replace hx223_0 := (HB.out.cell (World.block_lt_of_cell? w _ hx223_0)).trans hx223_0
          have HR223_0 := Aside0.mk hi223_0
          have HC223_0 := Aside0.mk hl223_0
          clear hi223_0 hl223_0
          replace p223 := eq_true p223
          replace q223 := eq_true q223
          go_wp2
          repeat (go_quiet (fail); try go_wp2)
          go_roundg k2
          case measure => have := HK1.out; have := HK2.out; omega
          case rel => exact ⟨(wrap64 (x8_2 + 1)), (by first | rfl | (simp; done) | (simp [*]; done)), H', ⟨by have := HK1.out; have := HK2.out; omega⟩, ⟨by (with_reducible repeat (first | apply Kd.R_alloc | apply Kd.R_drewN | apply Kd.R_drew)); exact HO_6.out⟩, ⟨by repeat (first | (with_reducible first | exact HB.out | apply below_alloc | apply pw_below_drewN | apply below_drew1) | exact HB.out)⟩⟩
        ·
         rw [if_neg c16] at H
         exact absurd H (by simp)
       ·
        rw [if_neg c15] at H
        have c15b0 : decide (x8_2 < (l1.length : Int)) = false := decide_eq_false c15
        clear c15
        have H' := Aside0.mk H
        clear H
        go_wp2
        repeat (go_quiet (fail); try go_wp2)
        go_loopg [9] k2 (fun kq v9 w' => ∃ (x9_3 : Int), v9 = .int .i64 x9_3 ∧ Aside0 (fippleref08_CheckFalls.l2 kq l0 l1 t218 x9_3 = some (r1, r2)) ∧ Aside0 (kq ≤ k2) ∧ Aside0 (Kd.R (Kd.int .i64) 3 w' w.heap.size (fun _ => True) (.slice Ao14 t218.length co14) t218) ∧ Aside0 (Below w.heap.size w w'))
        case atStart => exact ⟨(0), (by first | rfl | (simp; done) | (simp [*]; done)), H', ⟨Nat.le_refl _⟩, ⟨by (with_reducible repeat (first | apply Kd.R_alloc | apply Kd.R_drewN | apply Kd.R_drew)); exact HO_6.out⟩, ⟨by repeat (first | (with_reducible first | exact HB.out | apply below_alloc | apply pw_below_drewN | apply below_drew1) | exact HB.out)⟩⟩
        case round =>
         clear H'
         try clear c1
         try clear c2
         try clear p2
         try clear q2
         try clear hx2
         try clear c4
         try clear c4b0
         try clear c4b1
         try clear p6
         try clear c7
         try clear c7b0
         try clear c8
         try clear c8b0
         try clear c9
         try clear c9b0
         try clear c11
         try clear c11b0
         try clear c15
         try clear c15b0
         try clear c16
         try clear c16b0
         try clear c17
         try clear c17b0
         try clear c17b1
         try clear c17b2
         try clear hx221_0
         try clear hx222_0
         try clear hx223_0
         try clear p2
         try clear p221
         try clear p222
         try clear p223
         try clear p6
         try clear q2
         try clear q221
         try clear q222
         try clear q223
         obtain ⟨x9_3, rfl, HA, HK3, HO_6, HB⟩ := hrel
         cases gk with
         | zero => exact absurd HA.out (by simp [fippleref08_CheckFalls.l2])
         | succ k3 =>
          have H := HA.out
          clear HA
          simp only [fippleref08_CheckFalls.l2] at H
          by_cases c18 : x9_3 < (t218.length : Int)
          ·
           rw [if_pos c18] at H
           have c18b0 : decide (x9_3 < (t218.length : Int)) = true := decide_eq_true c18
           clear c18
           by_cases c19 : 0 ≤ x9_3
           ·
            rw [if_pos c19] at H
            have c19b0 := eq_true c19
            have c19b1 : decide (0 ≤ x9_3) = true := decide_eq_true c19
            clear c19
            by_cases c20 : x9_3 ≤ (t218.length : Int)
            ·
             rw [if_pos c20] at H
             have c20b0 := eq_true c20
             have c20b1 : decide (x9_3 ≤ (t218.length : Int)) = true := decide_eq_true c20
             clear c20
             obtain ⟨y224, hy224⟩ : ∃ y_ : List Int, y_ = (t218.take (x9_3 : Int).toNat) := ⟨_, rfl⟩
             replace H : ((fippleref08_Has.f k3 y224 (rd t218 x9_3)).bind fun t229 => (if t229 = true then (some (0, 15)) else (fippleref08_CheckFalls.l2 k3 l0 l1 t218 (wrap64 (x9_3 + 1))))) = some (r1, r2) := by first | (rw [hy224]; with_reducible exact H) | (have H2_ := (Option.bind_some _ _).symm.trans H; rw [hy224]; with_reducible exact H2_) | (have H2_ := (Option.bind_some _ _).symm.trans H; with_reducible exact H2_) | with_reducible exact H | (rw [hy224]; exact H) | exact H
             have Ny224 := Aside0.mk hy224
             clear hy224
             replace H := Option.bind_eq_some_iff.mp H
             obtain ⟨t229, A210, H⟩ := H
             replace H : (if t229 = true then (some (0, 15)) else (fippleref08_CheckFalls.l2 k3 l0 l1 t218 (wrap64 (x9_3 + 1)))) = some (r1, r2) := H
             have A21 := Aside0.mk A210
             clear A210
             by_cases c22 : t229 = true
             ·
              subst c22
              have H1 : (some (0, 15)) = some (r1, r2) := by rw [if_pos rfl] at H; exact H
              clear H
              have H := H1
              clear H1
              simp only [Option.some.injEq, Prod.mk.injEq] at H
              obtain ⟨rfl, rfl⟩ := H
              have q23 : (x9_3 : Int) ≤ ((t218.length : Int) : Int) := of_decide_eq_true (by first | (with_reducible assumption) | assumption)
              obtain ⟨i023, hi023, _, hsz23, _⟩ := info_parts info3
              have hroom23 : t218.length ≤ co14 := (Kd.R_reads' HO_6.out).2.1
              have hC23 : Kd.C (Kd.int .i64) _ Ao14 t218.length t218 := (Kd.R_reads' HO_6.out).2.2
              have hcut23 := cut_to (P := Try.prog) 32 3 .i64 Try.underlying32 hi023 Ao14 t218.length co14 x9_3 (of_decide_eq_true (by first | (with_reducible assumption) | assumption)) q23 hroom23
              have hr23 := Kd.C_take (m := (x9_3 : Int).toNat) hC23 (by omega)
              have hy23 : y224.length = (x9_3 : Int).toNat := (by rw [Ny224.out, List.length_take]; omega)
              rw [← Ny224.out] at hr23
              rw [← hy23] at hcut23
              have HR227 := Aside0.mk hr23
              have HC227 := Aside0.mk (show y224.length ≤ co14 from by omega)
              clear hr23 hC23 hroom23 hi023 hsz23
              have KY23 := Aside0.mk hy23
              clear hy23
              have KL23 := Aside0.mk (show (x9_3 : Int).toNat ≤ t218.length from by omega)
              replace q23 := eq_true q23
              have p228 : 0 ≤ (x9_3 : Int) := of_decide_eq_true (by first | (with_reducible assumption) | assumption)
              have q228 : x9_3 < (t218.length : Int) := of_decide_eq_true (by first | (with_reducible assumption) | assumption)
              obtain ⟨ad228, e228, hx228_0⟩ := Kd.at_int (Kd.R_reads' HO_6.out).2.2 x9_3 p228 q228
              cases e228
              replace p228 := eq_true p228
              replace q228 := eq_true q228
              go_wp2_with (first | (go_at_call 50; (with_reducible refine (fippleref08_Has.calls k3 _ _ y224 (rd t218 x9_3) true _ ?side1 ?side2 A21.out).mono ?_); (case side1 => repeat (first | exact (by repeat (first | (with_reducible exact HR227.out) | (with_reducible refine Kd.C_alloc ?_ _) | (with_reducible refine Kd.C_drewN ?_ _) | (with_reducible refine Kd.C_drew ?_) | exact HR227.out)) | (with_reducible refine Kd.C_alloc ?_ _) | (with_reducible refine Kd.C_drewN ?_ _) | (with_reducible refine Kd.C_drew ?_))); (case side2 => exact HC227.out); rintro e w' ⟨rfl, ⟨nd, rfl⟩⟩; (try first | exact ⟨rfl, _, World.drewN_drewN _ _ _⟩ | exact ⟨rfl, _, Eq.trans (World.drewN_drewN _ _ _) (congrArg (World.drewN _) (Nat.add_assoc _ _ _))⟩)))
              repeat (go_quiet (first | (go_at_call 50; (with_reducible refine (fippleref08_Has.calls k3 _ _ y224 (rd t218 x9_3) true _ ?side1 ?side2 A21.out).mono ?_); (case side1 => repeat (first | exact (by repeat (first | (with_reducible exact HR227.out) | (with_reducible refine Kd.C_alloc ?_ _) | (with_reducible refine Kd.C_drewN ?_ _) | (with_reducible refine Kd.C_drew ?_) | exact HR227.out)) | (with_reducible refine Kd.C_alloc ?_ _) | (with_reducible refine Kd.C_drewN ?_ _) | (with_reducible refine Kd.C_drew ?_))); (case side2 => exact HC227.out); rintro e w' ⟨rfl, ⟨nd, rfl⟩⟩; (try first | exact ⟨rfl, _, World.drewN_drewN _ _ _⟩ | exact ⟨rfl, _, Eq.trans (World.drewN_drewN _ _ _) (congrArg (World.drewN _) (Nat.add_assoc _ _ _))⟩))); try go_wp2_with (first | (go_at_call 50; (with_reducible refine (fippleref08_Has.calls k3 _ _ y224 (rd t218 x9_3) true _ ?side1 ?side2 A21.out).mono ?_); (case side1 => repeat (first | exact (by repeat (first | (with_reducible exact HR227.out) | (with_reducible refine Kd.C_alloc ?_ _) | (with_reducible refine Kd.C_drewN ?_ _) | (with_reducible refine Kd.C_drew ?_) | exact HR227.out)) | (with_reducible refine Kd.C_alloc ?_ _) | (with_reducible refine Kd.C_drewN ?_ _) | (with_reducible refine Kd.C_drew ?_))); (case side2 => exact HC227.out); rintro e w' ⟨rfl, ⟨nd, rfl⟩⟩; (try first | exact ⟨rfl, _, World.drewN_drewN _ _ _⟩ | exact ⟨rfl, _, Eq.trans (World.drewN_drewN _ _ _) (congrArg (World.drewN _) (Nat.add_assoc _ _ _))⟩))))
              go_ret2
              exact ⟨by first | rfl | (simp [errW_none, errW_some] <;> rfl) | (simp [*, errW_none, errW_some] <;> rfl), by repeat (first | (with_reducible first | exact HB.out | apply below_alloc | apply pw_below_drewN | apply below_drew1) | exact HB.out)⟩
             ·
              replace c22 := Bool.eq_false_iff.mpr c22
              subst c22
              have H1 : (fippleref08_CheckFalls.l2 k3 l0 l1 t218 (wrap64 (x9_3 + 1))) = some (r1, r2) := by rw [if_neg (show ¬ (false = true) by decide)] at H; exact H
              clear H
              have H := H1
              clear H1
              have H' := Aside0.mk H
              clear H
              have q24 : (x9_3 : Int) ≤ ((t218.length : Int) : Int) := of_decide_eq_true (by first | (with_reducible assumption) | assumption)
              obtain ⟨i024, hi024, _, hsz24, _⟩ := info_parts info3
              have hroom24 : t218.length ≤ co14 := (Kd.R_reads' HO_6.out).2.1
              have hC24 : Kd.C (Kd.int .i64) _ Ao14 t218.length t218 := (Kd.R_reads' HO_6.out).2.2
              have hcut24 := cut_to (P := Try.prog) 32 3 .i64 Try.underlying32 hi024 Ao14 t218.length co14 x9_3 (of_decide_eq_true (by first | (with_reducible assumption) | assumption)) q24 hroom24
              have hr24 := Kd.C_take (m := (x9_3 : Int).toNat) hC24 (by omega)
              have hy24 : y224.length = (x9_3 : Int).toNat := (by rw [Ny224.out, List.length_take]; omega)
              rw [← Ny224.out] at hr24
              rw [← hy24] at hcut24
              have HR227 := Aside0.mk hr24
              have HC227 := Aside0.mk (show y224.length ≤ co14 from by omega)
              clear hr24 hC24 hroom24 hi024 hsz24
              have KY24 := Aside0.mk hy24
              clear hy24
              have KL24 := Aside0.mk (show (x9_3 : Int).toNat ≤ t218.length from by omega)
              replace q24 := eq_true q24
              have p228 : 0 ≤ (x9_3 : Int) := of_decide_eq_true (by first | (with_reducible assumption) | assumption)
              have q228 : x9_3 < (t218.length : Int) := of_decide_eq_true (by first | (with_reducible assumption) | assumption)
              obtain ⟨ad228, e228, hx228_0⟩ := Kd.at_int (Kd.R_reads' HO_6.out).2.2 x9_3 p228 q228
              cases e228
              replace p228 := eq_true p228
              replace q228 := eq_true q228
              go_wp2_with (first | (go_at_call 50; (with_reducible refine (fippleref08_Has.calls k3 _ _ y224 (rd t218 x9_3) false _ ?side1 ?side2 A21.out).mono ?_); (case side1 => repeat (first | exact (by repeat (first | (with_reducible exact HR227.out) | (with_reducible refine Kd.C_alloc ?_ _) | (with_reducible refine Kd.C_drewN ?_ _) | (with_reducible refine Kd.C_drew ?_) | exact HR227.out)) | (with_reducible refine Kd.C_alloc ?_ _) | (with_reducible refine Kd.C_drewN ?_ _) | (with_reducible refine Kd.C_drew ?_))); (case side2 => exact HC227.out); rintro e w' ⟨rfl, ⟨nd, rfl⟩⟩; (try first | exact ⟨rfl, _, World.drewN_drewN _ _ _⟩ | exact ⟨rfl, _, Eq.trans (World.drewN_drewN _ _ _) (congrArg (World.drewN _) (Nat.add_assoc _ _ _))⟩)))
              repeat (go_quiet (first | (go_at_call 50; (with_reducible refine (fippleref08_Has.calls k3 _ _ y224 (rd t218 x9_3) false _ ?side1 ?side2 A21.out).mono ?_); (case side1 => repeat (first | exact (by repeat (first | (with_reducible exact HR227.out) | (with_reducible refine Kd.C_alloc ?_ _) | (with_reducible refine Kd.C_drewN ?_ _) | (with_reducible refine Kd.C_drew ?_) | exact HR227.out)) | (with_reducible refine Kd.C_alloc ?_ _) | (with_reducible refine Kd.C_drewN ?_ _) | (with_reducible refine Kd.C_drew ?_))); (case side2 => exact HC227.out); rintro e w' ⟨rfl, ⟨nd, rfl⟩⟩; (try first | exact ⟨rfl, _, World.drewN_drewN _ _ _⟩ | exact ⟨rfl, _, Eq.trans (World.drewN_drewN _ _ _) (congrArg (World.drewN _) (Nat.add_assoc _ _ _))⟩))); try go_wp2_with (first | (go_at_call 50; (with_reducible refine (fippleref08_Has.calls k3 _ _ y224 (rd t218 x9_3) false _ ?side1 ?side2 A21.out).mono ?_); (case side1 => repeat (first | exact (by repeat (first | (with_reducible exact HR227.out) | (with_reducible refine Kd.C_alloc ?_ _) | (with_reducible refine Kd.C_drewN ?_ _) | (with_reducible refine Kd.C_drew ?_) | exact HR227.out)) | (with_reducible refine Kd.C_alloc ?_ _) | (with_reducible refine Kd.C_drewN ?_ _) | (with_reducible refine Kd.C_drew ?_))); (case side2 => exact HC227.out); rintro e w' ⟨rfl, ⟨nd, rfl⟩⟩; (try first | exact ⟨rfl, _, World.drewN_drewN _ _ _⟩ | exact ⟨rfl, _, Eq.trans (World.drewN_drewN _ _ _) (congrArg (World.drewN _) (Nat.add_assoc _ _ _))⟩))))
              go_roundg k3
              case measure => have := HK1.out; have := HK2.out; have := HK3.out; omega
              case rel => exact ⟨(wrap64 (x9_3 + 1)), (by first | rfl | (simp; done) | (simp [*]; done)), H', ⟨by have := HK1.out; have := HK2.out; have := HK3.out; omega⟩, ⟨by (with_reducible repeat (first | apply Kd.R_alloc | apply Kd.R_drewN | apply Kd.R_drew)); exact HO_6.out⟩, ⟨by repeat (first | (with_reducible first | exact HB.out | apply below_alloc | apply pw_below_drewN | apply below_drew1) | exact HB.out)⟩⟩
            ·
             rw [if_neg c20] at H
             exact absurd H (by simp)
           ·
            rw [if_neg c19] at H
            exact absurd H (by simp)
          ·
           rw [if_neg c18] at H
           have c18b0 : decide (x9_3 < (t218.length : Int)) = false := decide_eq_false c18
           clear c18
           by_cases c25 : (t218.length : Int) = (l0.length : Int)
           ·
            rw [if_pos c25] at H
            have c25b0 : ((t218.length : Int) == (l0.length : Int)) = true := beq_iff_eq.mpr c25
            have c25b1 : ((t218.length : Int) != (l0.length : Int)) = false := bne_eq_false_iff_eq.mpr c25
            have c25b2 : (t218.length == l0.length) = true := by first | simpa using c25 | (simp at c25 ⊢; omega)
            clear c25
            have H' := Aside0.mk H
            clear H
            go_wp2
            repeat (go_quiet (fail); try go_wp2)
            go_loopg [10] k3 (fun kq v10 w' => ∃ (x10_4 : Int), v10 = .int .i64 x10_4 ∧ Aside0 (fippleref08_CheckFalls.l3 kq l0 l1 x10_4 = some (r1, r2)) ∧ Aside0 (kq ≤ k3) ∧ Aside0 (Below w.heap.size w w'))
            case atStart => exact ⟨(0), (by first | rfl | (simp; done) | (simp [*]; done)), H', ⟨Nat.le_refl _⟩, ⟨by repeat (first | (with_reducible first | exact HB.out | apply below_alloc | apply pw_below_drewN | apply below_drew1) | exact HB.out)⟩⟩
            case round =>
             clear H'
             try clear c1
             try clear c2
             try clear p2
             try clear q2
             try clear hx2
             try clear c4
             try clear c4b0
             try clear c4b1
             try clear p6
             try clear c7
             try clear c7b0
             try clear c8
             try clear c8b0
             try clear c9
             try clear c9b0
             try clear c11
             try clear c11b0
             try clear c15
             try clear c15b0
             try clear c16
             try clear c16b0
             try clear c17
             try clear c17b0
             try clear c17b1
             try clear c17b2
             try clear c18
             try clear c18b0
             try clear c19
             try clear c19b0
             try clear c19b1
             try clear c20
             try clear c20b0
             try clear c20b1
             try clear c22
             try clear p22
             try clear q22
             try clear hx22
             try clear q23
             try clear q24
             try clear c25
             try clear c25b0
             try clear c25b1
             try clear c25b2
             try clear hx221_0
             try clear hx222_0
             try clear hx223_0
             try clear hx228_0
             try clear p2
             try clear p221
             try clear p222
             try clear p223
             try clear p228
             try clear p6
             try clear q2
             try clear q221
             try clear q222
             try clear q223
             try clear q228
             try clear q23
             try clear q24
             obtain ⟨x10_4, rfl, HA, HK4, HB⟩ := hrel
             cases gk with
             | zero => exact absurd HA.out (by simp [fippleref08_CheckFalls.l3])
             | succ k4 =>
              have H := HA.out
              clear HA
              simp only [fippleref08_CheckFalls.l3] at H
              by_cases c26 : x10_4 < (l1.length : Int)
              ·
               rw [if_pos c26] at H
               have c26b0 : decide (x10_4 < (l1.length : Int)) = true := decide_eq_true c26
               clear c26
               have H' := Aside0.mk H
               clear H
               go_wp2
               repeat (go_quiet (fail); try go_wp2)
               go_loopg [11] k4 (fun kq v11 w' => ∃ (x11_5 : Int), v11 = .int .i64 x11_5 ∧ Aside0 (fippleref08_CheckFalls.l4 kq l0 l1 x10_4 x11_5 = some (r1, r2)) ∧ Aside0 (kq ≤ k4) ∧ Aside0 (Below w.heap.size w w'))
               case atStart => exact ⟨(1), (by first | rfl | (simp; done) | (simp [*]; done)), H', ⟨Nat.le_refl _⟩, ⟨by repeat (first | (with_reducible first | exact HB.out | apply below_alloc | apply pw_below_drewN | apply below_drew1) | exact HB.out)⟩⟩
               case round =>
                clear H'
                try clear c1
                try clear c2
                try clear p2
                try clear q2
                try clear hx2
                try clear c4
                try clear c4b0
                try clear c4b1
                try clear p6
                try clear c7
                try clear c7b0
                try clear c8
                try clear c8b0
                try clear c9
                try clear c9b0
                try clear c11
                try clear c11b0
                try clear c15
                try clear c15b0
                try clear c16
                try clear c16b0
                try clear c17
                try clear c17b0
                try clear c17b1
                try clear c17b2
                try clear c18
                try clear c18b0
                try clear c19
                try clear c19b0
                try clear c19b1
                try clear c20
                try clear c20b0
                try clear c20b1
                try clear c22
                try clear p22
                try clear q22
                try clear hx22
                try clear q23
                try clear q24
                try clear c25
                try clear c25b0
                try clear c25b1
                try clear c25b2
                try clear c26
                try clear c26b0
                try clear hx221_0
                try clear hx222_0
                try clear hx223_0
                try clear hx228_0
                try clear p2
                try clear p22
                try clear p221
                try clear p222
                try clear p223
                try clear p228
                try clear p6
                try clear q2
                try clear q22
                try clear q221
                try clear q222
                try clear q223
                try clear q228
                try clear q23
                try clear q24
                obtain ⟨x11_5, rfl, HA, HK5, HB⟩ := hrel
                cases gk with
                | zero => exact absurd HA.out (by simp [fippleref08_CheckFalls.l4])
                | succ k5 =>
                 have H := HA.out
                 clear HA
                 simp only [fippleref08_CheckFalls.l4] at H
                 by_cases c27 : 0 ≤ x10_4
                 ·
                  rw [if_pos c27] at H
                  have c27b0 : decide (0 ≤ x10_4) = true := decide_eq_true c27
                  clear c27
                  by_cases c28 : x10_4 < (l1.length : Int)
                  ·
                   rw [if_pos c28] at H
                   have c28b0 : decide (x10_4 < (l1.length : Int)) = true := decide_eq_true c28
                   clear c28
                   by_cases c29 : x11_5 < ((rd_L1 l1 x10_4).length : Int)
                   ·
                    rw [if_pos c29] at H
                    have c29b0 : decide (x11_5 < ((rd_L1 l1 x10_4).length : Int)) = true := decide_eq_true c29
                    clear c29
                    by_cases c30 : 0 ≤ x11_5
                    ·
                     rw [if_pos c30] at H
                     have c30b0 : decide (0 ≤ x11_5) = true := decide_eq_true c30
                     clear c30
                     obtain ⟨ji31, hji31⟩ : ∃ j_ : Int, (wrap64 (x11_5 - 1)) = j_ := ⟨_, rfl⟩
                     replace H : (if 0 ≤ (ji31) then (if (ji31) < ((rd_L1 l1 x10_4).length : Int) then (if (rd (rd_L1 l1 x10_4) x11_5) ≤ (rd (rd_L1 l1 x10_4) (ji31)) then (some (0, 22)) else (if 0 ≤ (rd (rd_L1 l1 x10_4) x11_5) then (if (rd (rd_L1 l1 x10_4) x11_5) < (l0.length : Int) then (if 0 ≤ (rd (rd_L1 l1 x10_4) (ji31)) then (if (rd (rd_L1 l1 x10_4) (ji31)) < (l0.length : Int) then (if (rd l0 (rd (rd_L1 l1 x10_4) x11_5)) ≥ (rd l0 (rd (rd_L1 l1 x10_4) (ji31))) then (some (0, 22)) else (fippleref08_CheckFalls.l4 k5 l0 l1 x10_4 (wrap64 (x11_5 + 1)))) else (none)) else (none)) else (none)) else (none))) else (none)) else (none)) = some (r1, r2) := by first | (rw [hji31] at H; exact H) | (simp only [hji31] at H ⊢; exact H)
                     have hji31w : (IntKind.i64.wrap (x11_5 - 1)) = ji31 := (i64_w _).trans hji31
                     by_cases c32 : 0 ≤ (ji31)
                     ·
                      rw [if_pos c32] at H
                      have c32b0 : decide (0 ≤ (ji31)) = true := decide_eq_true c32
                      clear c32
                      by_cases c33 : (ji31) < ((rd_L1 l1 x10_4).length : Int)
                      ·
                       rw [if_pos c33] at H
                       have c33b0 : decide ((ji31) < ((rd_L1 l1 x10_4).length : Int)) = true := decide_eq_true c33
                       clear c33
                       by_cases c34 : (rd (rd_L1 l1 x10_4) x11_5) ≤ (rd (rd_L1 l1 x10_4) (ji31))
                       ·
                        rw [if_pos c34] at H
                        have c34b0 : decide ((rd (rd_L1 l1 x10_4) x11_5) ≤ (rd (rd_L1 l1 x10_4) (ji31))) = true := decide_eq_true c34
                        clear c34
                        simp only [Option.some.injEq, Prod.mk.injEq] at H
                        obtain ⟨rfl, rfl⟩ := H
                        have p230 : 0 ≤ (x10_4 : Int) := of_decide_eq_true (by first | (with_reducible assumption) | assumption)
                        have q230 : x10_4 < (l1.length : Int) := of_decide_eq_true (by first | (with_reducible assumption) | assumption)
                        obtain ⟨ad230, A230_0, c230_0, e230, hx230_0, hl230_0, hi230_0⟩ := at_L1 HR1.out x10_4 p230 q230
                        cases e230
                        replace hx230_0 := (HB.out.cell (World.block_lt_of_cell? w _ hx230_0)).trans hx230_0
                        have HR230_0 := Aside0.mk hi230_0
                        have HC230_0 := Aside0.mk hl230_0
                        clear hi230_0 hl230_0
                        replace p230 := eq_true p230
                        replace q230 := eq_true q230
                        have p231 : 0 ≤ (x10_4 : Int) := of_decide_eq_true (by first | (with_reducible assumption) | assumption)
                        have q231 : x10_4 < (l1.length : Int) := of_decide_eq_true (by first | (with_reducible assumption) | assumption)
                        obtain ⟨ad231, A231_0, c231_0, e231, hx231_0, hl231_0, hi231_0⟩ := at_L1 HR1.out x10_4 p231 q231
                        obtain rfl : ad230 = ad231 := (by injection e231)
                        replace hx231_0 := (HB.out.cell (World.block_lt_of_cell? w _ hx231_0)).trans hx231_0
                        have HR231_0 := Aside0.mk hi231_0
                        have HC231_0 := Aside0.mk hl231_0
                        clear hi231_0 hl231_0
                        replace p231 := eq_true p231
                        replace q231 := eq_true q231
                        have ea_ := Option.some.inj (hx230_0.symm.trans hx231_0)
                        injection ea_ with ea_ en_ ec_
                        subst ea_
                        subst ec_
                        clear en_
                        have p232 : 0 ≤ (x11_5 : Int) := of_decide_eq_true (by first | (with_reducible assumption) | assumption)
                        have q232 : x11_5 < ((rd_L1 l1 x10_4).length : Int) := of_decide_eq_true (by first | (with_reducible assumption) | assumption)
                        obtain ⟨ad232, e232, hx232_0⟩ := Kd.at_int HR231_0.out x11_5 p232 q232
                        cases e232
                        replace hx232_0 := (HB.out.cell (World.block_lt_of_cell? w _ hx232_0)).trans hx232_0
                        replace p232 := eq_true p232
                        replace q232 := eq_true q232
                        have p233 : 0 ≤ (x10_4 : Int) := of_decide_eq_true (by first | (with_reducible assumption) | assumption)
                        have q233 : x10_4 < (l1.length : Int) := of_decide_eq_true (by first | (with_reducible assumption) | assumption)
                        obtain ⟨ad233, A233_0, c233_0, e233, hx233_0, hl233_0, hi233_0⟩ := at_L1 HR1.out x10_4 p233 q233
                        obtain rfl : ad230 = ad233 := (by injection e233)
                        replace hx233_0 := (HB.out.cell (World.block_lt_of_cell? w _ hx233_0)).trans hx233_0
                        have HR233_0 := Aside0.mk hi233_0
                        have HC233_0 := Aside0.mk hl233_0
                        clear hi233_0 hl233_0
                        replace p233 := eq_true p233
                        replace q233 := eq_true q233
                        have ea_ := Option.some.inj (hx230_0.symm.trans hx233_0)
                        injection ea_ with ea_ en_ ec_
                        subst ea_
                        subst ec_
                        clear en_
                        have p234 : 0 ≤ ((ji31) : Int) := of_decide_eq_true (by first | (with_reducible assumption) | assumption)
                        have q234 : (ji31) < ((rd_L1 l1 x10_4).length : Int) := of_decide_eq_true (by first | (with_reducible assumption) | assumption)
                        obtain ⟨ad234, e234, hx234_0⟩ := Kd.at_int HR233_0.out (ji31) p234 q234
                        cases e234
                        replace hx234_0 := (HB.out.cell (World.block_lt_of_cell? w _ hx234_0)).trans hx234_0
                        replace p234 := eq_true p234
                        replace q234 := eq_true q234
                        go_wp2
                        repeat (go_quiet (fail); try go_wp2)
                        go_ret2
                        exact ⟨by first | rfl | (simp [errW_none, errW_some] <;> rfl) | (simp only [← hji31]; first | rfl | (simp [errW_none, errW_some] <;> rfl)) | (simp [*, errW_none, errW_some] <;> rfl), by repeat (first | (with_reducible first | exact HB.out | apply below_alloc | apply pw_below_drewN | apply below_drew1) | exact HB.out)⟩
                       ·
                        rw [if_neg c34] at H
                        have c34b0 : decide ((rd (rd_L1 l1 x10_4) x11_5) ≤ (rd (rd_L1 l1 x10_4) (ji31))) = false := decide_eq_false c34
                        clear c34
                        by_cases c35 : 0 ≤ (rd (rd_L1 l1 x10_4) x11_5)
                        ·
                         rw [if_pos c35] at H
                         have c35b0 : decide (0 ≤ (rd (rd_L1 l1 x10_4) x11_5)) = true := decide_eq_true c35
                         clear c35
                         by_cases c36 : (rd (rd_L1 l1 x10_4) x11_5) < (l0.length : Int)
                         ·
                          rw [if_pos c36] at H
                          have c36b0 : decide ((rd (rd_L1 l1 x10_4) x11_5) < (l0.length : Int)) = true := decide_eq_true c36
                          clear c36
                          by_cases c37 : 0 ≤ (rd (rd_L1 l1 x10_4) (ji31))
                          ·
                           rw [if_pos c37] at H
                           have c37b0 : decide (0 ≤ (rd (rd_L1 l1 x10_4) (ji31))) = true := decide_eq_true c37
                           clear c37
                           by_cases c38 : (rd (rd_L1 l1 x10_4) (ji31)) < (l0.length : Int)
                           ·
                            rw [if_pos c38] at H
                            have c38b0 : decide ((rd (rd_L1 l1 x10_4) (ji31)) < (l0.length : Int)) = true := decide_eq_true c38
                            clear c38
                            by_cases c39 : (rd l0 (rd (rd_L1 l1 x10_4) x11_5)) ≥ (rd l0 (rd (rd_L1 l1 x10_4) (ji31)))
                            ·
                             rw [if_pos c39] at H
                             have c39b0 : decide ((rd l0 (rd (rd_L1 l1 x10_4) (ji31))) ≤ (rd l0 (rd (rd_L1 l1 x10_4) x11_5))) = true := decide_eq_true c39
                             clear c39
                             simp only [Option.some.injEq, Prod.mk.injEq] at H
                             obtain ⟨rfl, rfl⟩ := H
                             have p230 : 0 ≤ (x10_4 : Int) := of_decide_eq_true (by first | (with_reducible assumption) | assumption)
                             have q230 : x10_4 < (l1.length : Int) := of_decide_eq_true (by first | (with_reducible assumption) | assumption)
                             obtain ⟨ad230, A230_0, c230_0, e230, hx230_0, hl230_0, hi230_0⟩ := at_L1 HR1.out x10_4 p230 q230
                             cases e230
                             replace hx230_0 := (HB.out.cell (World.block_lt_of_cell? w _ hx230_0)).trans hx230_0
                             have HR230_0 := Aside0.mk hi230_0
                             have HC230_0 := Aside0.mk hl230_0
                             clear hi230_0 hl230_0
                             replace p230 := eq_true p230
                             replace q230 := eq_true q230
                             have p231 : 0 ≤ (x10_4 : Int) := of_decide_eq_true (by first | (with_reducible assumption) | assumption)
                             have q231 : x10_4 < (l1.length : Int) := of_decide_eq_true (by first | (with_reducible assumption) | assumption)
                             obtain ⟨ad231, A231_0, c231_0, e231, hx231_0, hl231_0, hi231_0⟩ := at_L1 HR1.out x10_4 p231 q231
                             obtain rfl : ad230 = ad231 := (by injection e231)
                             replace hx231_0 := (HB.out.cell (World.block_lt_of_cell? w _ hx231_0)).trans hx231_0
                             have HR231_0 := Aside0.mk hi231_0
                             have HC231_0 := Aside0.mk hl231_0
                             clear hi231_0 hl231_0
                             replace p231 := eq_true p231
                             replace q231 := eq_true q231
                             have ea_ := Option.some.inj (hx230_0.symm.trans hx231_0)
                             injection ea_ with ea_ en_ ec_
                             subst ea_
                             subst ec_
                             clear en_
                             have p232 : 0 ≤ (x11_5 : Int) := of_decide_eq_true (by first | (with_reducible assumption) | assumption)
                             have q232 : x11_5 < ((rd_L1 l1 x10_4).length : Int) := of_decide_eq_true (by first | (with_reducible assumption) | assumption)
                             obtain ⟨ad232, e232, hx232_0⟩ := Kd.at_int HR231_0.out x11_5 p232 q232
                             cases e232
                             replace hx232_0 := (HB.out.cell (World.block_lt_of_cell? w _ hx232_0)).trans hx232_0
                             replace p232 := eq_true p232
                             replace q232 := eq_true q232
                             have p233 : 0 ≤ (x10_4 : Int) := of_decide_eq_true (by first | (with_reducible assumption) | assumption)
                             have q233 : x10_4 < (l1.length : Int) := of_decide_eq_true (by first | (with_reducible assumption) | assumption)
                             obtain ⟨ad233, A233_0, c233_0, e233, hx233_0, hl233_0, hi233_0⟩ := at_L1 HR1.out x10_4 p233 q233
                             obtain rfl : ad230 = ad233 := (by injection e233)
                             replace hx233_0 := (HB.out.cell (World.block_lt_of_cell? w _ hx233_0)).trans hx233_0
                             have HR233_0 := Aside0.mk hi233_0
                             have HC233_0 := Aside0.mk hl233_0
                             clear hi233_0 hl233_0
                             replace p233 := eq_true p233
                             replace q233 := eq_true q233
                             have ea_ := Option.some.inj (hx230_0.symm.trans hx233_0)
                             injection ea_ with ea_ en_ ec_
                             subst ea_
                             subst ec_
                             clear en_
                             have p234 : 0 ≤ ((ji31) : Int) := of_decide_eq_true (by first | (with_reducible assumption) | assumption)
                             have q234 : (ji31) < ((rd_L1 l1 x10_4).length : Int) := of_decide_eq_true (by first | (with_reducible assumption) | assumption)
                             obtain ⟨ad234, e234, hx234_0⟩ := Kd.at_int HR233_0.out (ji31) p234 q234
                             cases e234
                             replace hx234_0 := (HB.out.cell (World.block_lt_of_cell? w _ hx234_0)).trans hx234_0
                             replace p234 := eq_true p234
                             replace q234 := eq_true q234
                             have p235 : 0 ≤ (x10_4 : Int) := of_decide_eq_true (by first | (with_reducible assumption) | assumption)
                             have q235 : x10_4 < (l1.length : Int) := of_decide_eq_true (by first | (with_reducible assumption) | assumption)
                             obtain ⟨ad235, A235_0, c235_0, e235, hx235_0, hl235_0, hi235_0⟩ := at_L1 HR1.out x10_4 p235 q235
                             obtain rfl : ad230 = ad235 := (by injection e235)
                             replace hx235_0 := (HB.out.cell (World.block_lt_of_cell? w _ hx235_0)).trans hx235_0
                             have HR235_0 := Aside0.mk hi235_0
                             have HC235_0 := Aside0.mk hl235_0
                             clear hi235_0 hl235_0
                             replace p235 := eq_true p235
                             replace q235 := eq_true q235
                             have ea_ := Option.some.inj (hx230_0.symm.trans hx235_0)
                             injection ea_ with ea_ en_ ec_
                             subst ea_
                             subst ec_
                             clear en_
                             have p236 : 0 ≤ (x11_5 : Int) := of_decide_eq_true (by first | (with_reducible assumption) | assumption)
                             have q236 : x11_5 < ((rd_L1 l1 x10_4).length : Int) := of_decide_eq_true (by first | (with_reducible assumption) | assumption)
                             obtain ⟨ad236, e236, hx236_0⟩ := Kd.at_int HR235_0.out x11_5 p236 q236
                             cases e236
                             replace hx236_0 := (HB.out.cell (World.block_lt_of_cell? w _ hx236_0)).trans hx236_0
                             replace p236 := eq_true p236
                             replace q236 := eq_true q236
                             have p237 : 0 ≤ ((rd (rd_L1 l1 x10_4) x11_5) : Int) := of_decide_eq_true (by first | (with_reducible assumption) | assumption)
                             have q237 : (rd (rd_L1 l1 x10_4) x11_5) < (l0.length : Int) := of_decide_eq_true (by first | (with_reducible assumption) | assumption)
                             obtain ⟨ad237, e237, hx237_0⟩ := Kd.at_int HR0.out (rd (rd_L1 l1 x10_4) x11_5) p237 q237
                             cases e237
                             replace hx237_0 := (HB.out.cell (World.block_lt_of_cell? w _ hx237_0)).trans hx237_0
                             replace p237 := eq_true p237
                             replace q237 := eq_true q237
                             have p238 : 0 ≤ (x10_4 : Int) := of_decide_eq_true (by first | (with_reducible assumption) | assumption)
                             have q238 : x10_4 < (l1.length : Int) := of_decide_eq_true (by first | (with_reducible assumption) | assumption)
                             obtain ⟨ad238, A238_0, c238_0, e238, hx238_0, hl238_0, hi238_0⟩ := at_L1 HR1.out x10_4 p238 q238
                             obtain rfl : ad230 = ad238 := (by injection e238)
                             replace hx238_0 := (HB.out.cell (World.block_lt_of_cell? w _ hx238_0)).trans hx238_0
                             have HR238_0 := Aside0.mk hi238_0
                             have HC238_0 := Aside0.mk hl238_0
                             clear hi238_0 hl238_0
                             replace p238 := eq_true p238
                             replace q238 := eq_true q238
                             have ea_ := Option.some.inj (hx230_0.symm.trans hx238_0)
                             injection ea_ with ea_ en_ ec_
                             subst ea_
                             subst ec_
                             clear en_
                             have p239 : 0 ≤ ((ji31) : Int) := of_decide_eq_true (by first | (with_reducible assumption) | assumption)
                             have q239 : (ji31) < ((rd_L1 l1 x10_4).length : Int) := of_decide_eq_true (by first | (with_reducible assumption) | assumption)
                             obtain ⟨ad239, e239, hx239_0⟩ := Kd.at_int HR238_0.out (ji31) p239 q239
                             cases e239
                             replace hx239_0 := (HB.out.cell (World.block_lt_of_cell? w _ hx239_0)).trans hx239_0
                             replace p239 := eq_true p239
                             replace q239 := eq_true q239
                             have p240 : 0 ≤ ((rd (rd_L1 l1 x10_4) (ji31)) : Int) := of_decide_eq_true (by first | (with_reducible assumption) | assumption)
                             have q240 : (rd (rd_L1 l1 x10_4) (ji31)) < (l0.length : Int) := of_decide_eq_true (by first | (with_reducible assumption) | assumption)
                             obtain ⟨ad240, e240, hx240_0⟩ := Kd.at_int HR0.out (rd (rd_L1 l1 x10_4) (ji31)) p240 q240
                             obtain rfl : ad237 = ad240 := (by injection e240)
                             replace hx240_0 := (HB.out.cell (World.block_lt_of_cell? w _ hx240_0)).trans hx240_0
                             replace p240 := eq_true p240
                             replace q240 := eq_true q240
                             go_wp2
                             repeat (go_quiet (fail); try go_wp2)
                             go_ret2
                             exact ⟨by first | rfl | (simp [errW_none, errW_some] <;> rfl) | (simp only [← hji31]; first | rfl | (simp [errW_none, errW_some] <;> rfl)) | (simp [*, errW_none, errW_some] <;> rfl), by repeat (first | (with_reducible first | exact HB.out | apply below_alloc | apply pw_below_drewN | apply below_drew1) | exact HB.out)⟩
                            ·
                             rw [if_neg c39] at H
                             have c39b0 : decide ((rd l0 (rd (rd_L1 l1 x10_4) (ji31))) ≤ (rd l0 (rd (rd_L1 l1 x10_4) x11_5))) = false := decide_eq_false c39
                             clear c39
                             have H' := Aside0.mk H
                             clear H
                             have p230 : 0 ≤ (x10_4 : Int) := of_decide_eq_true (by first | (with_reducible assumption) | assumption)
                             have q230 : x10_4 < (l1.length : Int) := of_decide_eq_true (by first | (with_reducible assumption) | assumption)
                             obtain ⟨ad230, A230_0, c230_0, e230, hx230_0, hl230_0, hi230_0⟩ := at_L1 HR1.out x10_4 p230 q230
                             cases e230
                             replace hx230_0 := (HB.out.cell (World.block_lt_of_cell? w _ hx230_0)).trans hx230_0
                             have HR230_0 := Aside0.mk hi230_0
                             have HC230_0 := Aside0.mk hl230_0
                             clear hi230_0 hl230_0
                             replace p230 := eq_true p230
                             replace q230 := eq_true q230
                             have p231 : 0 ≤ (x10_4 : Int) := of_decide_eq_true (by first | (with_reducible assumption) | assumption)
                             have q231 : x10_4 < (l1.length : Int) := of_decide_eq_true (by first | (with_reducible assumption) | assumption)
                             obtain ⟨ad231, A231_0, c231_0, e231, hx231_0, hl231_0, hi231_0⟩ := at_L1 HR1.out x10_4 p231 q231
                             obtain rfl : ad230 = ad231 := (by injection e231)
                             replace hx231_0 := (HB.out.cell (World.block_lt_of_cell? w _ hx231_0)).trans hx231_0
                             have HR231_0 := Aside0.mk hi231_0
                             have HC231_0 := Aside0.mk hl231_0
                             clear hi231_0 hl231_0
                             replace p231 := eq_true p231
                             replace q231 := eq_true q231
                             have ea_ := Option.some.inj (hx230_0.symm.trans hx231_0)
                             injection ea_ with ea_ en_ ec_
                             subst ea_
                             subst ec_
                             clear en_
                             have p232 : 0 ≤ (x11_5 : Int) := of_decide_eq_true (by first | (with_reducible assumption) | assumption)
                             have q232 : x11_5 < ((rd_L1 l1 x10_4).length : Int) := of_decide_eq_true (by first | (with_reducible assumption) | assumption)
                             obtain ⟨ad232, e232, hx232_0⟩ := Kd.at_int HR231_0.out x11_5 p232 q232
                             cases e232
                             replace hx232_0 := (HB.out.cell (World.block_lt_of_cell? w _ hx232_0)).trans hx232_0
                             replace p232 := eq_true p232
                             replace q232 := eq_true q232
                             have p233 : 0 ≤ (x10_4 : Int) := of_decide_eq_true (by first | (with_reducible assumption) | assumption)
                             have q233 : x10_4 < (l1.length : Int) := of_decide_eq_true (by first | (with_reducible assumption) | assumption)
                             obtain ⟨ad233, A233_0, c233_0, e233, hx233_0, hl233_0, hi233_0⟩ := at_L1 HR1.out x10_4 p233 q233
                             obtain rfl : ad230 = ad233 := (by injection e233)
                             replace hx233_0 := (HB.out.cell (World.block_lt_of_cell? w _ hx233_0)).trans hx233_0
                             have HR233_0 := Aside0.mk hi233_0
                             have HC233_0 := Aside0.mk hl233_0
                             clear hi233_0 hl233_0
                             replace p233 := eq_true p233
                             replace q233 := eq_true q233
                             have ea_ := Option.some.inj (hx230_0.symm.trans hx233_0)
                             injection ea_ with ea_ en_ ec_
                             subst ea_
                             subst ec_
                             clear en_
                             have p234 : 0 ≤ ((ji31) : Int) := of_decide_eq_true (by first | (with_reducible assumption) | assumption)
                             have q234 : (ji31) < ((rd_L1 l1 x10_4).length : Int) := of_decide_eq_true (by first | (with_reducible assumption) | assumption)
                             obtain ⟨ad234, e234, hx234_0⟩ := Kd.at_int HR233_0.out (ji31) p234 q234
                             cases e234
                             replace hx234_0 := (HB.out.cell (World.block_lt_of_cell? w _ hx234_0)).trans hx234_0
                             replace p234 := eq_true p234
                             replace q234 := eq_true q234
                             have p235 : 0 ≤ (x10_4 : Int) := of_decide_eq_true (by first | (with_reducible assumption) | assumption)
                             have q235 : x10_4 < (l1.length : Int) := of_decide_eq_true (by first | (with_reducible assumption) | assumption)
                             obtain ⟨ad235, A235_0, c235_0, e235, hx235_0, hl235_0, hi235_0⟩ := at_L1 HR1.out x10_4 p235 q235
                             obtain rfl : ad230 = ad235 := (by injection e235)
                             replace hx235_0 := (HB.out.cell (World.block_lt_of_cell? w _ hx235_0)).trans hx235_0
                             have HR235_0 := Aside0.mk hi235_0
                             have HC235_0 := Aside0.mk hl235_0
                             clear hi235_0 hl235_0
                             replace p235 := eq_true p235
                             replace q235 := eq_true q235
                             have ea_ := Option.some.inj (hx230_0.symm.trans hx235_0)
                             injection ea_ with ea_ en_ ec_
                             subst ea_
                             subst ec_
                             clear en_
                             have p236 : 0 ≤ (x11_5 : Int) := of_decide_eq_true (by first | (with_reducible assumption) | assumption)
                             have q236 : x11_5 < ((rd_L1 l1 x10_4).length : Int) := of_decide_eq_true (by first | (with_reducible assumption) | assumption)
                             obtain ⟨ad236, e236, hx236_0⟩ := Kd.at_int HR235_0.out x11_5 p236 q236
                             cases e236
                             replace hx236_0 := (HB.out.cell (World.block_lt_of_cell? w _ hx236_0)).trans hx236_0
                             replace p236 := eq_true p236
                             replace q236 := eq_true q236
                             have p237 : 0 ≤ ((rd (rd_L1 l1 x10_4) x11_5) : Int) := of_decide_eq_true (by first | (with_reducible assumption) | assumption)
                             have q237 : (rd (rd_L1 l1 x10_4) x11_5) < (l0.length : Int) := of_decide_eq_true (by first | (with_reducible assumption) | assumption)
                             obtain ⟨ad237, e237, hx237_0⟩ := Kd.at_int HR0.out (rd (rd_L1 l1 x10_4) x11_5) p237 q237
                             cases e237
                             replace hx237_0 := (HB.out.cell (World.block_lt_of_cell? w _ hx237_0)).trans hx237_0
                             replace p237 := eq_true p237
                             replace q237 := eq_true q237
                             have p238 : 0 ≤ (x10_4 : Int) := of_decide_eq_true (by first | (with_reducible assumption) | assumption)
                             have q238 : x10_4 < (l1.length : Int) := of_decide_eq_true (by first | (with_reducible assumption) | assumption)
                             obtain ⟨ad238, A238_0, c238_0, e238, hx238_0, hl238_0, hi238_0⟩ := at_L1 HR1.out x10_4 p238 q238
                             obtain rfl : ad230 = ad238 := (by injection e238)
                             replace hx238_0 := (HB.out.cell (World.block_lt_of_cell? w _ hx238_0)).trans hx238_0
                             have HR238_0 := Aside0.mk hi238_0
                             have HC238_0 := Aside0.mk hl238_0
                             clear hi238_0 hl238_0
                             replace p238 := eq_true p238
                             replace q238 := eq_true q238
                             have ea_ := Option.some.inj (hx230_0.symm.trans hx238_0)
                             injection ea_ with ea_ en_ ec_
                             subst ea_
                             subst ec_
                             clear en_
                             have p239 : 0 ≤ ((ji31) : Int) := of_decide_eq_true (by first | (with_reducible assumption) | assumption)
                             have q239 : (ji31) < ((rd_L1 l1 x10_4).length : Int) := of_decide_eq_true (by first | (with_reducible assumption) | assumption)
                             obtain ⟨ad239, e239, hx239_0⟩ := Kd.at_int HR238_0.out (ji31) p239 q239
                             cases e239
                             replace hx239_0 := (HB.out.cell (World.block_lt_of_cell? w _ hx239_0)).trans hx239_0
                             replace p239 := eq_true p239
                             replace q239 := eq_true q239
                             have p240 : 0 ≤ ((rd (rd_L1 l1 x10_4) (ji31)) : Int) := of_decide_eq_true (by first | (with_reducible assumption) | assumption)
                             have q240 : (rd (rd_L1 l1 x10_4) (ji31)) < (l0.length : Int) := of_decide_eq_true (by first | (with_reducible assumption) | assumption)
                             obtain ⟨ad240, e240, hx240_0⟩ := Kd.at_int HR0.out (rd (rd_L1 l1 x10_4) (ji31)) p240 q240
                             obtain rfl : ad237 = ad240 := (by injection e240)
                             replace hx240_0 := (HB.out.cell (World.block_lt_of_cell? w _ hx240_0)).trans hx240_0
                             replace p240 := eq_true p240
                             replace q240 := eq_true q240
                             go_wp2
                             repeat (go_quiet (fail); try go_wp2)
                             go_roundg k5
                             case measure => have := HK1.out; have := HK2.out; have := HK3.out; have := HK4.out; have := HK5.out; omega
                             case rel => exact ⟨(wrap64 (x11_5 + 1)), (by first | rfl | (simp; done) | (simp [*]; done)), H', ⟨by have := HK1.out; have := HK2.out; have := HK3.out; have := HK4.out; have := HK5.out; omega⟩, ⟨by repeat (first | (with_reducible first | exact HB.out | apply below_alloc | apply pw_below_drewN | apply below_drew1) | exact HB.out)⟩⟩
                           ·
                            rw [if_neg c38] at H
                            exact absurd H (by simp)
                          ·
                           rw [if_neg c37] at H
                           exact absurd H (by simp)
                         ·
                          rw [if_neg c36] at H
                          exact absurd H (by simp)
                        ·
                         rw [if_neg c35] at H
                         exact absurd H (by simp)
                      ·
                       rw [if_neg c33] at H
                       exact absurd H (by simp)
                     ·
                      rw [if_neg c32] at H
                      exact absurd H (by simp)
                    ·
                     rw [if_neg c30] at H
                     exact absurd H (by simp)
                   ·
                    rw [if_neg c29] at H
                    have c29b0 : decide (x11_5 < ((rd_L1 l1 x10_4).length : Int)) = false := decide_eq_false c29
                    clear c29
                    have H' := Aside0.mk H
                    clear H
                    have p230 : 0 ≤ (x10_4 : Int) := of_decide_eq_true (by first | (with_reducible assumption) | assumption)
                    have q230 : x10_4 < (l1.length : Int) := of_decide_eq_true (by first | (with_reducible assumption) | assumption)
                    obtain ⟨ad230, A230_0, c230_0, e230, hx230_0, hl230_0, hi230_0⟩ := at_L1 HR1.out x10_4 p230 q230
                    cases e230
                    replace hx230_0 := (HB.out.cell (World.block_lt_of_cell? w _ hx230_0)).trans hx230_0
                    have HR230_0 := Aside0.mk hi230_0
                    have HC230_0 := Aside0.mk hl230_0
                    clear hi230_0 hl230_0
                    replace p230 := eq_true p230
                    replace q230 := eq_true q230
                    go_wp2
                    repeat (go_quiet (fail); try go_wp2)
                    go_roundg k5
                    case measure => have := HK1.out; have := HK2.out; have := HK3.out; have := HK4.out; have := HK5.out; omega
                    case rel => exact ⟨(wrap64 (x10_4 + 1)), (by first | rfl | (simp; done) | (simp [*]; done)), H', ⟨by have := HK1.out; have := HK2.out; have := HK3.out; have := HK4.out; have := HK5.out; omega⟩, ⟨by repeat (first | (with_reducible first | exact HB.out | apply below_alloc | apply pw_below_drewN | apply below_drew1) | exact HB.out)⟩⟩
                  ·
                   rw [if_neg c28] at H
                   exact absurd H (by simp)
                 ·
                  rw [if_neg c27] at H
                  exact absurd H (by simp)
              ·
               rw [if_neg c26] at H
               have c26b0 : decide (x10_4 < (l1.length : Int)) = false := decide_eq_false c26
               clear c26
               simp only [Option.some.injEq, Prod.mk.injEq] at H
               obtain ⟨rfl, rfl⟩ := H
               go_wp2
               repeat (go_quiet (fail); try go_wp2)
               go_ret2
               exact ⟨by first | rfl | (simp [errW_none, errW_some] <;> rfl) | (simp [*, errW_none, errW_some] <;> rfl), by repeat (first | (with_reducible first | exact HB.out | apply below_alloc | apply pw_below_drewN | apply below_drew1) | exact HB.out)⟩
           ·
            rw [if_neg c25] at H
            have c25b0 : ((t218.length : Int) == (l0.length : Int)) = false := beq_eq_false_iff_ne.mpr c25
            have c25b1 : ((t218.length : Int) != (l0.length : Int)) = true := bne_iff_ne.mpr c25
            have c25b2 : (t218.length == l0.length) = false := by first | simpa using c25 | (simp at c25 ⊢; omega)
            simp only [Option.some.injEq, Prod.mk.injEq] at H
            obtain ⟨rfl, rfl⟩ := H
            go_wp2
            repeat (go_quiet (fail); try go_wp2)
            go_ret2
            exact ⟨by first | rfl | (simp [errW_none, errW_some] <;> rfl) | (simp [*, errW_none, errW_some] <;> rfl), by repeat (first | (with_reducible first | exact HB.out | apply below_alloc | apply pw_below_drewN | apply below_drew1) | exact HB.out)⟩
 ·
  rw [if_neg c4] at H
  have c4b0 : (t216 == 0) = false := beq_eq_false_iff_ne.mpr c4
  have c4b1 : (t216 != 0) = true := bne_iff_ne.mpr c4
  replace H := Option.bind_eq_some_iff.mp H
  obtain ⟨t217, A400, H⟩ := H
  replace H : (some (0, t217)) = some (r1, r2) := H
  have A40 := Aside0.mk A400
  clear A400
  try (obtain rfl : t216 = t217 := Option.some.inj (A3.out.symm.trans A40.out))
  simp only [Option.some.injEq, Prod.mk.injEq] at H
  obtain ⟨rfl, rfl⟩ := H
  go_enter Try.func40, Try.ntmps40
  go_wp2_with (first | (go_at_call 24; (with_reducible refine (fippleref08_CheckSequence.calls k _ _ l0 t216 _ ?side1 ?side2 A3.out).mono ?_); (case side1 => repeat (first | exact HR0.out | (with_reducible refine Kd.C_alloc ?_ _) | (with_reducible refine Kd.C_drewN ?_ _) | (with_reducible refine Kd.C_drew ?_))); (case side2 => exact HC0.out); rintro e w' ⟨rfl, ⟨nd, rfl⟩⟩; (try first | exact ⟨rfl, _, World.drewN_drewN _ _ _⟩ | exact ⟨rfl, _, Eq.trans (World.drewN_drewN _ _ _) (congrArg (World.drewN _) (Nat.add_assoc _ _ _))⟩)) | (go_at_call 24; (with_reducible refine (fippleref08_CheckSequence.calls k _ _ l0 t217 _ ?side1 ?side2 A40.out).mono ?_); (case side1 => repeat (first | exact HR0.out | (with_reducible refine Kd.C_alloc ?_ _) | (with_reducible refine Kd.C_drewN ?_ _) | (with_reducible refine Kd.C_drew ?_))); (case side2 => exact HC0.out); rintro e w' ⟨rfl, ⟨nd, rfl⟩⟩; (try first | exact ⟨rfl, _, World.drewN_drewN _ _ _⟩ | exact ⟨rfl, _, Eq.trans (World.drewN_drewN _ _ _) (congrArg (World.drewN _) (Nat.add_assoc _ _ _))⟩)))
  repeat (go_quiet (first | (go_at_call 24; (with_reducible refine (fippleref08_CheckSequence.calls k _ _ l0 t216 _ ?side1 ?side2 A3.out).mono ?_); (case side1 => repeat (first | exact HR0.out | (with_reducible refine Kd.C_alloc ?_ _) | (with_reducible refine Kd.C_drewN ?_ _) | (with_reducible refine Kd.C_drew ?_))); (case side2 => exact HC0.out); rintro e w' ⟨rfl, ⟨nd, rfl⟩⟩; (try first | exact ⟨rfl, _, World.drewN_drewN _ _ _⟩ | exact ⟨rfl, _, Eq.trans (World.drewN_drewN _ _ _) (congrArg (World.drewN _) (Nat.add_assoc _ _ _))⟩)) | (go_at_call 24; (with_reducible refine (fippleref08_CheckSequence.calls k _ _ l0 t217 _ ?side1 ?side2 A40.out).mono ?_); (case side1 => repeat (first | exact HR0.out | (with_reducible refine Kd.C_alloc ?_ _) | (with_reducible refine Kd.C_drewN ?_ _) | (with_reducible refine Kd.C_drew ?_))); (case side2 => exact HC0.out); rintro e w' ⟨rfl, ⟨nd, rfl⟩⟩; (try first | exact ⟨rfl, _, World.drewN_drewN _ _ _⟩ | exact ⟨rfl, _, Eq.trans (World.drewN_drewN _ _ _) (congrArg (World.drewN _) (Nat.add_assoc _ _ _))⟩))); try go_wp2_with (first | (go_at_call 24; (with_reducible refine (fippleref08_CheckSequence.calls k _ _ l0 t216 _ ?side1 ?side2 A3.out).mono ?_); (case side1 => repeat (first | exact HR0.out | (with_reducible refine Kd.C_alloc ?_ _) | (with_reducible refine Kd.C_drewN ?_ _) | (with_reducible refine Kd.C_drew ?_))); (case side2 => exact HC0.out); rintro e w' ⟨rfl, ⟨nd, rfl⟩⟩; (try first | exact ⟨rfl, _, World.drewN_drewN _ _ _⟩ | exact ⟨rfl, _, Eq.trans (World.drewN_drewN _ _ _) (congrArg (World.drewN _) (Nat.add_assoc _ _ _))⟩)) | (go_at_call 24; (with_reducible refine (fippleref08_CheckSequence.calls k _ _ l0 t217 _ ?side1 ?side2 A40.out).mono ?_); (case side1 => repeat (first | exact HR0.out | (with_reducible refine Kd.C_alloc ?_ _) | (with_reducible refine Kd.C_drewN ?_ _) | (with_reducible refine Kd.C_drew ?_))); (case side2 => exact HC0.out); rintro e w' ⟨rfl, ⟨nd, rfl⟩⟩; (try first | exact ⟨rfl, _, World.drewN_drewN _ _ _⟩ | exact ⟨rfl, _, Eq.trans (World.drewN_drewN _ _ _) (congrArg (World.drewN _) (Nat.add_assoc _ _ _))⟩))))
  go_ret2
  exact ⟨by first | rfl | (simp [errW_none, errW_some] <;> rfl) | (simp [*, errW_none, errW_some] <;> rfl), by repeat (first | (with_reducible first | exact HB.out | apply below_alloc | apply pw_below_drewN | apply below_drew1) | exact HB.out)⟩

end Go.Proofs.Ytpbemjdaanlaoaa.Pr
