/- Printed out of the translation by the kit's print.py: contracts of fippleref08_shaped, fippleref08_increasing, fippleref08_CheckRack. -/
import Derived.Test.YtpbemjdaanlaoaaPr0
import Derived.Test.YtpbemjdaanlaoaaPr1
import Derived.Test.YtpbemjdaanlaoaaN2
namespace Go.Proofs.Ytpbemjdaanlaoaa.Pr
open Go.RowKit Go.Proofs.YtpbemjdaanlaoaaW.PrintWords Go.Proofs.YtpbemjdaanlaoaaW.PrintLast Go.Proofs.YtpbemjdaanlaoaaW.PrintMore
attribute [local go_sem] max2_int min2_int max_two min_two max_three min_three max_four min_four   -- for this text's walks alone
set_option linter.unusedVariables false
set_option linter.unusedSimpArgs false
-- NOT PRINTED: function 9 (fipplelaw08_copied)
/-! ### fippleref08_shaped: function 46 -/
def fippleref08_shaped.l0 : Nat → List (List Int) → Int → Option (Bool)
 | 0, _, _ => none
 | k + 1, x0, x3 => if x3 < (x0.length : Int) then (if 0 ≤ x3 then (if ((rd_L1 x0 x3).length : Int) = 0 then (some false) else (if x3 > 0 then (if 0 ≤ (wrap64 (x3 - 1)) then (if (wrap64 (x3 - 1)) < (x0.length : Int) then (if ((rd_L1 x0 x3).length : Int) > ((rd_L1 x0 (wrap64 (x3 - 1))).length : Int) then (some false) else (fippleref08_shaped.l0 k x0 (wrap64 (x3 + 1)))) else (none)) else (none)) else (fippleref08_shaped.l0 k x0 (wrap64 (x3 + 1))))) else (none)) else (some true)
def fippleref08_shaped.f (k : Nat) (l0 : List (List Int)) : Option (Bool) := fippleref08_shaped.l0 k l0 0
theorem fippleref08_shaped.mono_l : ∀ k, (∀ y0 y1, LeO (fippleref08_shaped.l0 k y0 y1) (fippleref08_shaped.l0 (k + 1) y0 y1))
 | 0 => fun _ _ r h => by simp [fippleref08_shaped.l0] at h
 | k + 1 => by
  have ih0 := fippleref08_shaped.mono_l k
  ·
   intro y0 y1
   unfold fippleref08_shaped.l0
   repeat' first
   | (with_reducible exact ih0 _ _)
   | (with_reducible exact LeO.refl _)
   | (with_reducible exact LeO.none _)
   | (with_reducible refine LeO.ite ?_ ?_)
   | (with_reducible refine LeO.bind ?_ (fun _ => ?_))
   | exact ih0 _ _
   | exact LeO.none _
   | refine LeO.ite ?_ ?_
   | refine LeO.bind ?_ (fun _ => ?_)
theorem fippleref08_shaped.mono : ∀ a0 k, LeO (fippleref08_shaped.f k a0) (fippleref08_shaped.f (k + 1) a0) := by
 intro a0 k
 have ih0 := fippleref08_shaped.mono_l k
 unfold fippleref08_shaped.f
 repeat' first
   | (with_reducible exact ih0 _ _)
   | (with_reducible exact LeO.refl _)
   | (with_reducible exact LeO.none _)
   | (with_reducible refine LeO.ite ?_ ?_)
   | (with_reducible refine LeO.bind ?_ (fun _ => ?_))
   | exact ih0 _ _
   | exact LeO.none _
   | refine LeO.ite ?_ ?_
   | refine LeO.bind ?_ (fun _ => ?_)
set_option maxHeartbeats 8000000 in
set_option maxRecDepth 100000 in
theorem fippleref08_shaped.calls (k : Nat) (A0 : Option Addr) (c0 : Nat) (l0 : List (List Int)) (r : Bool) (w : World) (hr0 : Kd.C (Kd.slice 3 (Kd.int .i64)) w A0 l0.length l0) (hc0 : l0.length ≤ c0) (h : fippleref08_shaped.f k l0 = some r) :
  Calls Try.prog 46 #[.slice A0 l0.length c0] w fun e w' => e = .returned (.bool r) ∧ Drawn0 w w' := by
 have HR0 := Aside0.mk hr0
 have HC0 := Aside0.mk hc0
 clear hr0 hc0
 have H : (fippleref08_shaped.l0 k l0 0) = some r := h
 clear h
 have H' := Aside0.mk H
 clear H
 go_enter Try.func46, Try.ntmps46
 go_wp2
 repeat (go_quiet (fail); try go_wp2)
 go_loopg [3] k (fun kq v3 w' => ∃ (x3_1 : Int), v3 = .int .i64 x3_1 ∧ Aside0 (fippleref08_shaped.l0 kq l0 x3_1 = some r) ∧ Aside0 (kq ≤ k) ∧ Drawn0 w w')
 case atStart => exact ⟨(0), (by first | rfl | (simp; done) | (simp [*]; done)), H', ⟨Nat.le_refl _⟩, by repeat (first | exact Drawn0.refl _ | apply Drawn0.step)⟩
 case round =>
  clear H'
  obtain ⟨x3_1, rfl, HA, HK1, ⟨m1, rfl⟩⟩ := hrel
  cases gk with
  | zero => exact absurd HA.out (by simp [fippleref08_shaped.l0])
  | succ k1 =>
   have H := HA.out
   clear HA
   simp only [fippleref08_shaped.l0] at H
   by_cases c2 : x3_1 < (l0.length : Int)
   ·
    rw [if_pos c2] at H
    have c2b0 : decide (x3_1 < (l0.length : Int)) = true := decide_eq_true c2
    clear c2
    by_cases c3 : 0 ≤ x3_1
    ·
     rw [if_pos c3] at H
     have c3b0 : decide (0 ≤ x3_1) = true := decide_eq_true c3
     clear c3
     by_cases c4 : ((rd_L1 l0 x3_1).length : Int) = 0
     ·
      rw [if_pos c4] at H
      have c4b0 : (((rd_L1 l0 x3_1).length : Int) == 0) = true := beq_iff_eq.mpr c4
      have c4b1 : (((rd_L1 l0 x3_1).length : Int) != 0) = false := bne_eq_false_iff_eq.mpr c4
      clear c4
      obtain rfl := Option.some.inj H
      have p502 : 0 ≤ (x3_1 : Int) := of_decide_eq_true (by first | (with_reducible assumption) | assumption)
      have q502 : x3_1 < (l0.length : Int) := of_decide_eq_true (by first | (with_reducible assumption) | assumption)
      obtain ⟨ad502, A502_0, c502_0, e502, hx502_0, hl502_0, hi502_0⟩ := at_L1 HR0.out x3_1 p502 q502
      cases e502
      have HR502_0 := Aside0.mk hi502_0
      have HC502_0 := Aside0.mk hl502_0
      clear hi502_0 hl502_0
      replace p502 := eq_true p502
      replace q502 := eq_true q502
      go_wp2
      repeat (go_quiet (fail); try go_wp2)
      go_ret
      exact ⟨by first | rfl | (simp; done) | (simp [*]; done), by repeat (first | exact Drawn0.refl _ | apply Drawn0.step)⟩
     ·
      rw [if_neg c4] at H
      have c4b0 : (((rd_L1 l0 x3_1).length : Int) == 0) = false := beq_eq_false_iff_ne.mpr c4
      have c4b1 : (((rd_L1 l0 x3_1).length : Int) != 0) = true := bne_iff_ne.mpr c4
      have c4b2 : ¬ ((rd_L1 l0 x3_1) = []) := fun h_ => c4 (by rw [h_]; rfl)
      by_cases c5 : x3_1 > 0
      ·
       rw [if_pos c5] at H
       have c5b0 : decide (0 < x3_1) = true := decide_eq_true c5
       clear c5
       obtain ⟨ji6, hji6⟩ : ∃ j_ : Int, (wrap64 (x3_1 - 1)) = j_ := ⟨_, rfl⟩
       replace H : (if 0 ≤ (ji6) then (if (ji6) < (l0.length : Int) then (if ((rd_L1 l0 x3_1).length : Int) > ((rd_L1 l0 (ji6)).length : Int) then (some false) else (fippleref08_shaped.l0 k1 l0 (wrap64 (x3_1 + 1)))) else (none)) else (none)) = some r := by first | (rw [hji6] at H; exact H) | (simp only [hji6] at H ⊢; exact H)
       have hji6w : (IntKind.i64.wrap (x3_1 - 1)) = ji6 := (i64_w _).trans hji6
       by_cases c7 : 0 ≤ (ji6)
       ·
        rw [if_pos c7] at H
        have c7b0 : decide (0 ≤ (ji6)) = true := decide_eq_true c7
        clear c7
        by_cases c8 : (ji6) < (l0.length : Int)
        ·
         rw [if_pos c8] at H
         have c8b0 : decide ((ji6) < (l0.length : Int)) = true := decide_eq_true c8
         clear c8
         by_cases c9 : ((rd_L1 l0 x3_1).length : Int) > ((rd_L1 l0 (ji6)).length : Int)
         ·
          rw [if_pos c9] at H
          have c9b0 : decide (((rd_L1 l0 (ji6)).length : Int) < ((rd_L1 l0 x3_1).length : Int)) = true := decide_eq_true c9
          have c9b1 : decide ((rd_L1 l0 (ji6)).length < (rd_L1 l0 x3_1).length) = true := decide_eq_true (Int.ofNat_lt.mp c9)
          clear c9
          obtain rfl := Option.some.inj H
          have p502 : 0 ≤ (x3_1 : Int) := of_decide_eq_true (by first | (with_reducible assumption) | assumption)
          have q502 : x3_1 < (l0.length : Int) := of_decide_eq_true (by first | (with_reducible assumption) | assumption)
          obtain ⟨ad502, A502_0, c502_0, e502, hx502_0, hl502_0, hi502_0⟩ := at_L1 HR0.out x3_1 p502 q502
          cases e502
          have HR502_0 := Aside0.mk hi502_0
          have HC502_0 := Aside0.mk hl502_0
          clear hi502_0 hl502_0
          replace p502 := eq_true p502
          replace q502 := eq_true q502
          have p503 : 0 ≤ (x3_1 : Int) := of_decide_eq_true (by first | (with_reducible assumption) | assumption)
          have q503 : x3_1 < (l0.length : Int) := of_decide_eq_true (by first | (with_reducible assumption) | assumption)
          obtain ⟨ad503, A503_0, c503_0, e503, hx503_0, hl503_0, hi503_0⟩ := at_L1 HR0.out x3_1 p503 q503
          obtain rfl : ad502 = ad503 := (by injection e503)
          have HR503_0 := Aside0.mk hi503_0
          have HC503_0 := Aside0.mk hl503_0
          clear hi503_0 hl503_0
          replace p503 := eq_true p503
          replace q503 := eq_true q503
          have ea_ := Option.some.inj (hx502_0.symm.trans hx503_0)
          injection ea_ with ea_ en_ ec_
          subst ea_
          subst ec_
          clear en_
          have p504 : 0 ≤ ((ji6) : Int) := of_decide_eq_true (by first | (with_reducible assumption) | assumption)
          have q504 : (ji6) < (l0.length : Int) := of_decide_eq_true (by first | (with_reducible assumption) | assumption)
          obtain ⟨ad504, A504_0, c504_0, e504, hx504_0, hl504_0, hi504_0⟩ := at_L1 HR0.out (ji6) p504 q504
          obtain rfl : ad502 = ad504 := (by injection e504)
          have HR504_0 := Aside0.mk hi504_0
          have HC504_0 := Aside0.mk hl504_0
          clear hi504_0 hl504_0
          replace p504 := eq_true p504
          replace q504 := eq_true q504
          go_wp2
          repeat (go_quiet (fail); try go_wp2)
          go_ret
          exact ⟨by first | rfl | (simp; done) | (simp only [← hji6] <;> (first | rfl | simp)) | (simp [*]; done), by repeat (first | exact Drawn0.refl _ | apply Drawn0.step)⟩
         ·
          rw [if_neg c9] at H
          have c9b0 : decide (((rd_L1 l0 (ji6)).length : Int) < ((rd_L1 l0 x3_1).length : Int)) = false := decide_eq_false c9
          have c9b1 : decide ((rd_L1 l0 (ji6)).length < (rd_L1 l0 x3_1).length) = false := decide_eq_false (fun h => c9 (Int.ofNat_lt.mpr h))
          clear c9
          have H' := Aside0.mk H
          clear H
          have p502 : 0 ≤ (x3_1 : Int) := of_decide_eq_true (by first | (with_reducible assumption) | assumption)
          have q502 : x3_1 < (l0.length : Int) := of_decide_eq_true (by first | (with_reducible assumption) | assumption)
          obtain ⟨ad502, A502_0, c502_0, e502, hx502_0, hl502_0, hi502_0⟩ := at_L1 HR0.out x3_1 p502 q502
          cases e502
          have HR502_0 := Aside0.mk hi502_0
          have HC502_0 := Aside0.mk hl502_0
          clear hi502_0 hl502_0
          replace p502 := eq_true p502
          replace q502 := eq_true q502
          have p503 : 0 ≤ (x3_1 : Int) := of_decide_eq_true (by first | (with_reducible assumption) | assumption)
          have q503 : x3_1 < (l0.length : Int) := of_decide_eq_true (by first | (with_reducible assumption) | assumption)
          obtain ⟨ad503, A503_0, c503_0, e503, hx503_0, hl503_0, hi503_0⟩ := at_L1 HR0.out x3_1 p503 q503
          obtain rfl : ad502 = ad503 := (by injection e503)
          have HR503_0 := Aside0.mk hi503_0
          have HC503_0 := Aside0.mk hl503_0
          clear hi503_0 hl503_0
          replace p503 := eq_true p503
          replace q503 := eq_true q503
          have ea_ := Option.some.inj (hx502_0.symm.trans hx503_0)
          injection ea_ with ea_ en_ ec_
          subst ea_
          subst ec_
          clear en_
          have p504 : 0 ≤ ((ji6) : Int) := of_decide_eq_true (by first | (with_reducible assumption) | assumption)
          have q504 : (ji6) < (l0.length : Int) := of_decide_eq_true (by first | (with_reducible assumption) | assumption)
          obtain ⟨ad504, A504_0, c504_0, e504, hx504_0, hl504_0, hi504_0⟩ := at_L1 HR0.out (ji6) p504 q504
          obtain rfl : ad502 = ad504 := (by injection e504)
          have HR504_0 := Aside0.mk hi504_0
          have HC504_0 := Aside0.mk hl504_0
          clear hi504_0 hl504_0
          replace p504 := eq_true p504
          replace q504 := eq_true q504
          go_wp2
          repeat (go_quiet (fail); try go_wp2)
          go_roundg k1
          case measure => have := HK1.out; omega
          case rel => exact ⟨(wrap64 (x3_1 + 1)), (by first | rfl | (simp; done) | (simp [*]; done)), H', ⟨by have := HK1.out; omega⟩, by repeat (first | exact Drawn0.refl _ | apply Drawn0.step)⟩
        ·
         rw [if_neg c8] at H
         exact absurd H (by simp)
       ·
        rw [if_neg c7] at H
        exact absurd H (by simp)
      ·
       rw [if_neg c5] at H
       have c5b0 : decide (0 < x3_1) = false := decide_eq_false c5
       clear c5
       have H' := Aside0.mk H
       clear H
       have p502 : 0 ≤ (x3_1 : Int) := of_decide_eq_true (by first | (with_reducible assumption) | assumption)
       have q502 : x3_1 < (l0.length : Int) := of_decide_eq_true (by first | (with_reducible assumption) | assumption)
       obtain ⟨ad502, A502_0, c502_0, e502, hx502_0, hl502_0, hi502_0⟩ := at_L1 HR0.out x3_1 p502 q502
       cases e502
       have HR502_0 := Aside0.mk hi502_0
       have HC502_0 := Aside0.mk hl502_0
       clear hi502_0 hl502_0
       replace p502 := eq_true p502
       replace q502 := eq_true q502
       go_wp2
       repeat (go_quiet (fail); try go_wp2)
       go_roundg k1
       case measure => have := HK1.out; omega
       case rel => exact ⟨(wrap64 (x3_1 + 1)), (by first | rfl | (simp; done) | (simp [*]; done)), H', ⟨by have := HK1.out; omega⟩, by repeat (first | exact Drawn0.refl _ | apply Drawn0.step)⟩
    ·
     rw [if_neg c3] at H
     exact absurd H (by simp)
   ·
    rw [if_neg c2] at H
    have c2b0 : decide (x3_1 < (l0.length : Int)) = false := decide_eq_false c2
    clear c2
    obtain rfl := Option.some.inj H
    go_wp2
    repeat (go_quiet (fail); try go_wp2)
    go_ret
    exact ⟨by first | rfl | (simp; done) | (simp [*]; done), by repeat (first | exact Drawn0.refl _ | apply Drawn0.step)⟩

/-! ### fippleref08_increasing: function 47 -/
mutual
def fippleref08_increasing.l0 : Nat → List (List Int) → Int → Int → Option (Bool)
 | 0, _, _, _ => none
 | k + 1, x0, x1, x5 => if x5 < (x0.length : Int) then (fippleref08_increasing.l1 k x0 x1 x5 0) else (some true)
def fippleref08_increasing.l1 : Nat → List (List Int) → Int → Int → Int → Option (Bool)
 | 0, _, _, _, _ => none
 | k + 1, x0, x1, x5, x6 => if 0 ≤ x5 then (if x5 < (x0.length : Int) then (if x6 < ((rd_L1 x0 x5).length : Int) then (if x6 > 0 then (if 0 ≤ x6 then (if 0 ≤ (wrap64 (x6 - 1)) then (if (wrap64 (x6 - 1)) < ((rd_L1 x0 x5).length : Int) then (if (rd (rd_L1 x0 x5) x6) < (wrap64 ((rd (rd_L1 x0 x5) (wrap64 (x6 - 1))) + x1)) then (some false) else (if x5 > 0 then (if 0 ≤ (wrap64 (x5 - 1)) then (if (wrap64 (x5 - 1)) < (x0.length : Int) then (if x6 < ((rd_L1 x0 (wrap64 (x5 - 1))).length : Int) then (if (rd (rd_L1 x0 x5) x6) ≤ (rd (rd_L1 x0 (wrap64 (x5 - 1))) x6) then (some false) else (fippleref08_increasing.l1 k x0 x1 x5 (wrap64 (x6 + 1)))) else (none)) else (none)) else (none)) else (fippleref08_increasing.l1 k x0 x1 x5 (wrap64 (x6 + 1))))) else (none)) else (none)) else (none)) else (if x5 > 0 then (if 0 ≤ x6 then (if 0 ≤ (wrap64 (x5 - 1)) then (if (wrap64 (x5 - 1)) < (x0.length : Int) then (if x6 < ((rd_L1 x0 (wrap64 (x5 - 1))).length : Int) then (if (rd (rd_L1 x0 x5) x6) ≤ (rd (rd_L1 x0 (wrap64 (x5 - 1))) x6) then (some false) else (fippleref08_increasing.l1 k x0 x1 x5 (wrap64 (x6 + 1)))) else (none)) else (none)) else (none)) else (none)) else (fippleref08_increasing.l1 k x0 x1 x5 (wrap64 (x6 + 1))))) else (fippleref08_increasing.l0 k x0 x1 (wrap64 (x5 + 1)))) else (none)) else (none)
end
def fippleref08_increasing.f (k : Nat) (l0 : List (List Int)) (a1 : Int) : Option (Bool) := fippleref08_increasing.l0 k l0 a1 0
theorem fippleref08_increasing.mono_l : ∀ k, (∀ y0 y1 y2, LeO (fippleref08_increasing.l0 k y0 y1 y2) (fippleref08_increasing.l0 (k + 1) y0 y1 y2)) ∧ (∀ y0 y1 y2 y3, LeO (fippleref08_increasing.l1 k y0 y1 y2 y3) (fippleref08_increasing.l1 (k + 1) y0 y1 y2 y3))
 | 0 => ⟨fun _ _ _ r h => by simp [fippleref08_increasing.l0] at h, fun _ _ _ _ r h => by simp [fippleref08_increasing.l1] at h⟩
 | k + 1 => by
  obtain ⟨ih0, ih1⟩ := fippleref08_increasing.mono_l k
  refine ⟨?_, ?_⟩
  ·
   intro y0 y1 y2
   unfold fippleref08_increasing.l0
   repeat' first
   | (with_reducible exact ih0 _ _ _)
   | (with_reducible exact ih1 _ _ _ _)
   | (with_reducible exact LeO.refl _)
   | (with_reducible exact LeO.none _)
   | (with_reducible refine LeO.ite ?_ ?_)
   | (with_reducible refine LeO.bind ?_ (fun _ => ?_))
   | exact ih0 _ _ _
   | exact ih1 _ _ _ _
   | exact LeO.none _
   | refine LeO.ite ?_ ?_
   | refine LeO.bind ?_ (fun _ => ?_)
  ·
   intro y0 y1 y2 y3
   unfold fippleref08_increasing.l1
   repeat' first
   | (with_reducible exact ih0 _ _ _)
   | (with_reducible exact ih1 _ _ _ _)
   | (with_reducible exact LeO.refl _)
   | (with_reducible exact LeO.none _)
   | (with_reducible refine LeO.ite ?_ ?_)
   | (with_reducible refine LeO.bind ?_ (fun _ => ?_))
   | exact ih0 _ _ _
   | exact ih1 _ _ _ _
   | exact LeO.none _
   | refine LeO.ite ?_ ?_
   | refine LeO.bind ?_ (fun _ => ?_)
theorem fippleref08_increasing.mono : ∀ a0 a1 k, LeO (fippleref08_increasing.f k a0 a1) (fippleref08_increasing.f (k + 1) a0 a1) := by
 intro a0 a1 k
 obtain ⟨ih0, ih1⟩ := fippleref08_increasing.mono_l k
 unfold fippleref08_increasing.f
 repeat' first
   | (with_reducible exact ih0 _ _ _)
   | (with_reducible exact ih1 _ _ _ _)
   | (with_reducible exact LeO.refl _)
   | (with_reducible exact LeO.none _)
   | (with_reducible refine LeO.ite ?_ ?_)
   | (with_reducible refine LeO.bind ?_ (fun _ => ?_))
   | exact ih0 _ _ _
   | exact ih1 _ _ _ _
   | exact LeO.none _
   | refine LeO.ite ?_ ?_
   | refine LeO.bind ?_ (fun _ => ?_)
set_option maxHeartbeats 8000000 in
set_option maxRecDepth 100000 in
theorem fippleref08_increasing.calls (k : Nat) (A0 : Option Addr) (c0 : Nat) (l0 : List (List Int)) (a1 : Int) (r : Bool) (w : World) (hr0 : Kd.C (Kd.slice 3 (Kd.int .i64)) w A0 l0.length l0) (hc0 : l0.length ≤ c0) (h : fippleref08_increasing.f k l0 a1 = some r) :
  Calls Try.prog 47 #[.slice A0 l0.length c0, .int .i64 a1] w fun e w' => e = .returned (.bool r) ∧ Drawn0 w w' := by
 have HR0 := Aside0.mk hr0
 have HC0 := Aside0.mk hc0
 clear hr0 hc0
 have H : (fippleref08_increasing.l0 k l0 a1 0) = some r := h
 clear h
 have H' := Aside0.mk H
 clear H
 go_enter Try.func47, Try.ntmps47
 go_wp2
 repeat (go_quiet (fail); try go_wp2)
 go_loopg [5] k (fun kq v5 w' => ∃ (x5_1 : Int), v5 = .int .i64 x5_1 ∧ Aside0 (fippleref08_increasing.l0 kq l0 a1 x5_1 = some r) ∧ Aside0 (kq ≤ k) ∧ Drawn0 w w')
 case atStart => exact ⟨(0), (by first | rfl | (simp; done) | (simp [*]; done)), H', ⟨Nat.le_refl _⟩, by repeat (first | exact Drawn0.refl _ | apply Drawn0.step)⟩
 case round =>
  clear H'
  try clear p2
  obtain ⟨x5_1, rfl, HA, HK1, ⟨m1, rfl⟩⟩ := hrel
  cases gk with
  | zero => exact absurd HA.out (by simp [fippleref08_increasing.l0])
  | succ k1 =>
   have H := HA.out
   clear HA
   simp only [fippleref08_increasing.l0] at H
   by_cases c3 : x5_1 < (l0.length : Int)
   ·
    rw [if_pos c3] at H
    have c3b0 : decide (x5_1 < (l0.length : Int)) = true := decide_eq_true c3
    clear c3
    have H' := Aside0.mk H
    clear H
    go_wp2
    repeat (go_quiet (fail); try go_wp2)
    go_loopg [6] k1 (fun kq v6 w' => ∃ (x6_2 : Int), v6 = .int .i64 x6_2 ∧ Aside0 (fippleref08_increasing.l1 kq l0 a1 x5_1 x6_2 = some r) ∧ Aside0 (kq ≤ k1) ∧ Drawn0 w w')
    case atStart => exact ⟨(0), (by first | rfl | (simp; done) | (simp [*]; done)), H', ⟨Nat.le_refl _⟩, by repeat (first | exact Drawn0.refl _ | apply Drawn0.step)⟩
    case round =>
     clear H'
     try clear p2
     try clear c3
     try clear c3b0
     try clear p2
     obtain ⟨x6_2, rfl, HA, HK2, ⟨m2, rfl⟩⟩ := hrel
     cases gk with
     | zero => exact absurd HA.out (by simp [fippleref08_increasing.l1])
     | succ k2 =>
      have H := HA.out
      clear HA
      simp only [fippleref08_increasing.l1] at H
      by_cases c4 : 0 ≤ x5_1
      ·
       rw [if_pos c4] at H
       have c4b0 : decide (0 ≤ x5_1) = true := decide_eq_true c4
       clear c4
       by_cases c5 : x5_1 < (l0.length : Int)
       ·
        rw [if_pos c5] at H
        have c5b0 : decide (x5_1 < (l0.length : Int)) = true := decide_eq_true c5
        clear c5
        by_cases c6 : x6_2 < ((rd_L1 l0 x5_1).length : Int)
        ·
         rw [if_pos c6] at H
         have c6b0 : decide (x6_2 < ((rd_L1 l0 x5_1).length : Int)) = true := decide_eq_true c6
         clear c6
         by_cases c7 : x6_2 > 0
         ·
          rw [if_pos c7] at H
          have c7b0 : decide (0 < x6_2) = true := decide_eq_true c7
          clear c7
          by_cases c8 : 0 ≤ x6_2
          ·
           rw [if_pos c8] at H
           have c8b0 : decide (0 ≤ x6_2) = true := decide_eq_true c8
           clear c8
           obtain ⟨ji9, hji9⟩ : ∃ j_ : Int, (wrap64 (x6_2 - 1)) = j_ := ⟨_, rfl⟩
           replace H : (if 0 ≤ (ji9) then (if (ji9) < ((rd_L1 l0 x5_1).length : Int) then (if (rd (rd_L1 l0 x5_1) x6_2) < (wrap64 ((rd (rd_L1 l0 x5_1) (ji9)) + a1)) then (some false) else (if x5_1 > 0 then (if 0 ≤ (wrap64 (x5_1 - 1)) then (if (wrap64 (x5_1 - 1)) < (l0.length : Int) then (if x6_2 < ((rd_L1 l0 (wrap64 (x5_1 - 1))).length : Int) then (if (rd (rd_L1 l0 x5_1) x6_2) ≤ (rd (rd_L1 l0 (wrap64 (x5_1 - 1))) x6_2) then (some false) else (fippleref08_increasing.l1 k2 l0 a1 x5_1 (wrap64 (x6_2 + 1)))) else (none)) else (none)) else (none)) else (fippleref08_increasing.l1 k2 l0 a1 x5_1 (wrap64 (x6_2 + 1))))) else (none)) else (none)) = some r := by first | (rw [hji9] at H; exact H) | (simp only [hji9] at H ⊢; exact H)
           have hji9w : (IntKind.i64.wrap (x6_2 - 1)) = ji9 := (i64_w _).trans hji9
           by_cases c10 : 0 ≤ (ji9)
           ·
            rw [if_pos c10] at H
            have c10b0 : decide (0 ≤ (ji9)) = true := decide_eq_true c10
            clear c10
            by_cases c11 : (ji9) < ((rd_L1 l0 x5_1).length : Int)
            ·
             rw [if_pos c11] at H
             have c11b0 : decide ((ji9) < ((rd_L1 l0 x5_1).length : Int)) = true := decide_eq_true c11
             clear c11
             by_cases c12 : (rd (rd_L1 l0 x5_1) x6_2) < (wrap64 ((rd (rd_L1 l0 x5_1) (ji9)) + a1))
             ·
              rw [if_pos c12] at H
              have c12b0 : decide ((rd (rd_L1 l0 x5_1) x6_2) < (wrap64 ((rd (rd_L1 l0 x5_1) (ji9)) + a1))) = true := decide_eq_true c12
              clear c12
              obtain rfl := Option.some.inj H
              have p505 : 0 ≤ (x5_1 : Int) := of_decide_eq_true (by first | (with_reducible assumption) | assumption)
              have q505 : x5_1 < (l0.length : Int) := of_decide_eq_true (by first | (with_reducible assumption) | assumption)
              obtain ⟨ad505, A505_0, c505_0, e505, hx505_0, hl505_0, hi505_0⟩ := at_L1 HR0.out x5_1 p505 q505
              cases e505
              have HR505_0 := Aside0.mk hi505_0
              have HC505_0 := Aside0.mk hl505_0
              clear hi505_0 hl505_0
              replace p505 := eq_true p505
              replace q505 := eq_true q505
              have p506 : 0 ≤ (x5_1 : Int) := of_decide_eq_true (by first | (with_reducible assumption) | assumption)
              have q506 : x5_1 < (l0.length : Int) := of_decide_eq_true (by first | (with_reducible assumption) | assumption)
              obtain ⟨ad506, A506_0, c506_0, e506, hx506_0, hl506_0, hi506_0⟩ := at_L1 HR0.out x5_1 p506 q506
              obtain rfl : ad505 = ad506 := (by injection e506)
              have HR506_0 := Aside0.mk hi506_0
              have HC506_0 := Aside0.mk hl506_0
              clear hi506_0 hl506_0
              replace p506 := eq_true p506
              replace q506 := eq_true q506
              have ea_ := Option.some.inj (hx505_0.symm.trans hx506_0)
              injection ea_ with ea_ en_ ec_
              subst ea_
              subst ec_
              clear en_
              have p507 : 0 ≤ (x6_2 : Int) := of_decide_eq_true (by first | (with_reducible assumption) | assumption)
              have q507 : x6_2 < ((rd_L1 l0 x5_1).length : Int) := of_decide_eq_true (by first | (with_reducible assumption) | assumption)
              obtain ⟨ad507, e507, hx507_0⟩ := Kd.at_int HR506_0.out x6_2 p507 q507
              cases e507
              replace p507 := eq_true p507
              replace q507 := eq_true q507
              have p508 : 0 ≤ (x5_1 : Int) := of_decide_eq_true (by first | (with_reducible assumption) | assumption)
              have q508 : x5_1 < (l0.length : Int) := of_decide_eq_true (by first | (with_reducible assumption) | assumption)
              obtain ⟨ad508, A508_0, c508_0, e508, hx508_0, hl508_0, hi508_0⟩ := at_L1 HR0.out x5_1 p508 q508
              obtain rfl : ad505 = ad508 := (by injection e508)
              have HR508_0 := Aside0.mk hi508_0
              have HC508_0 := Aside0.mk hl508_0
              clear hi508_0 hl508_0
              replace p508 := eq_true p508
              replace q508 := eq_true q508
              have ea_ := Option.some.inj (hx505_0.symm.trans hx508_0)
              injection ea_ with ea_ en_ ec_
              subst ea_
              subst ec_
              clear en_
              have p509 : 0 ≤ ((ji9) : Int) := of_decide_eq_true (by first | (with_reducible assumption) | assumption)
              have q509 : (ji9) < ((rd_L1 l0 x5_1).length : Int) := of_decide_eq_true (by first | (with_reducible assumption) | assumption)
              obtain ⟨ad509, e509, hx509_0⟩ := Kd.at_int HR508_0.out (ji9) p509 q509
              cases e509
              replace p509 := eq_true p509
              replace q509 := eq_true q509
              go_wp2
              repeat (go_quiet (fail); try go_wp2)
              go_ret
              exact ⟨by first | rfl | (simp; done) | (simp only [← hji9] <;> (first | rfl | simp)) | (simp [*]; done), by repeat (first | exact Drawn0.refl _ | apply Drawn0.step)⟩
             ·
              rw [if_neg c12] at H
              have c12b0 : decide ((rd (rd_L1 l0 x5_1) x6_2) < (wrap64 ((rd (rd_L1 l0 x5_1) (ji9)) + a1))) = false := decide_eq_false c12
              clear c12
              by_cases c13 : x5_1 > 0
              ·
               rw [if_pos c13] at H
               have c13b0 : decide (0 < x5_1) = true := decide_eq_true c13
               clear c13
               obtain ⟨ji14, hji14⟩ : ∃ j_ : Int, (wrap64 (x5_1 - 1)) = j_ := ⟨_, rfl⟩
               replace H : (if 0 ≤ (ji14) then (if (ji14) < (l0.length : Int) then (if x6_2 < ((rd_L1 l0 (ji14)).length : Int) then (if (rd (rd_L1 l0 x5_1) x6_2) ≤ (rd (rd_L1 l0 (ji14)) x6_2) then (some false) else (fippleref08_increasing.l1 k2 l0 a1 x5_1 (wrap64 (x6_2 + 1)))) else (none)) else (none)) else (none)) = some r := by first | (rw [hji14] at H; exact H) | (simp only [hji14] at H ⊢; exact H)
               have hji14w : (IntKind.i64.wrap (x5_1 - 1)) = ji14 := (i64_w _).trans hji14
               by_cases c15 : 0 ≤ (ji14)
               ·
                rw [if_pos c15] at H
                have c15b0 : decide (0 ≤ (ji14)) = true := decide_eq_true c15
                clear c15
                by_cases c16 : (ji14) < (l0.length : Int)
                ·
                 rw [if_pos c16] at H
                 have c16b0 : decide ((ji14) < (l0.length : Int)) = true := decide_eq_true c16
                 clear c16
                 by_cases c17 : x6_2 < ((rd_L1 l0 (ji14)).length : Int)
                 ·
                  rw [if_pos c17] at H
                  have c17b0 : decide (x6_2 < ((rd_L1 l0 (ji14)).length : Int)) = true := decide_eq_true c17
                  clear c17
                  by_cases c18 : (rd (rd_L1 l0 x5_1) x6_2) ≤ (rd (rd_L1 l0 (ji14)) x6_2)
                  ·
                   rw [if_pos c18] at H
                   have c18b0 : decide ((rd (rd_L1 l0 x5_1) x6_2) ≤ (rd (rd_L1 l0 (ji14)) x6_2)) = true := decide_eq_true c18
                   clear c18
                   obtain rfl := Option.some.inj H
                   have p505 : 0 ≤ (x5_1 : Int) := of_decide_eq_true (by first | (with_reducible assumption) | assumption)
                   have q505 : x5_1 < (l0.length : Int) := of_decide_eq_true (by first | (with_reducible assumption) | assumption)
                   obtain ⟨ad505, A505_0, c505_0, e505, hx505_0, hl505_0, hi505_0⟩ := at_L1 HR0.out x5_1 p505 q505
                   cases e505
                   have HR505_0 := Aside0.mk hi505_0
                   have HC505_0 := Aside0.mk hl505_0
                   clear hi505_0 hl505_0
                   replace p505 := eq_true p505
                   replace q505 := eq_true q505
                   have p506 : 0 ≤ (x5_1 : Int) := of_decide_eq_true (by first | (with_reducible assumption) | assumption)
                   have q506 : x5_1 < (l0.length : Int) := of_decide_eq_true (by first | (with_reducible assumption) | assumption)
                   obtain ⟨ad506, A506_0, c506_0, e506, hx506_0, hl506_0, hi506_0⟩ := at_L1 HR0.out x5_1 p506 q506
                   obtain rfl : ad505 = ad506 := (by injection e506)
                   have HR506_0 := Aside0.mk hi506_0
                   have HC506_0 := Aside0.mk hl506_0
                   clear hi506_0 hl506_0
                   replace p506 := eq_true p506
                   replace q506 := eq_true q506
                   have ea_ := Option.some.inj (hx505_0.symm.trans hx506_0)
                   injection ea_ with ea_ en_ ec_
                   subst ea_
                   subst ec_
                   clear en_
                   have p507 : 0 ≤ (x6_2 : Int) := of_decide_eq_true (by first | (with_reducible assumption) | assumption)
                   have q507 : x6_2 < ((rd_L1 l0 x5_1).length : Int) := of_decide_eq_true (by first | (with_reducible assumption) | assumption)
                   obtain ⟨ad507, e507, hx507_0⟩ := Kd.at_int HR506_0.out x6_2 p507 q507
                   cases e507
                   replace p507 := eq_true p507
                   replace q507 := eq_true q507
                   have p508 : 0 ≤ (x5_1 : Int) := of_decide_eq_true (by first | (with_reducible assumption) | assumption)
                   have q508 : x5_1 < (l0.length : Int) := of_decide_eq_true (by first | (with_reducible assumption) | assumption)
                   obtain ⟨ad508, A508_0, c508_0, e508, hx508_0, hl508_0, hi508_0⟩ := at_L1 HR0.out x5_1 p508 q508
                   obtain rfl : ad505 = ad508 := (by injection e508)
                   have HR508_0 := Aside0.mk hi508_0
                   have HC508_0 := Aside0.mk hl508_0
                   clear hi508_0 hl508_0
                   replace p508 := eq_true p508
                   replace q508 := eq_true q508
                   have ea_ := Option.some.inj (hx505_0.symm.trans hx508_0)
                   injection ea_ with ea_ en_ ec_
                   subst ea_
                   subst ec_
                   clear en_
                   have p509 : 0 ≤ ((ji9) : Int) := of_decide_eq_true (by first | (with_reducible assumption) | assumption)
                   have q509 : (ji9) < ((rd_L1 l0 x5_1).length : Int) := of_decide_eq_true (by first | (with_reducible assumption) | assumption)
                   obtain ⟨ad509, e509, hx509_0⟩ := Kd.at_int HR508_0.out (ji9) p509 q509
                   cases e509
                   replace p509 := eq_true p509
                   replace q509 := eq_true q509
                   have p510 : 0 ≤ (x5_1 : Int) := of_decide_eq_true (by first | (with_reducible assumption) | assumption)
                   have q510 : x5_1 < (l0.length : Int) := of_decide_eq_true (by first | (with_reducible assumption) | assumption)
                   obtain ⟨ad510, A510_0, c510_0, e510, hx510_0, hl510_0, hi510_0⟩ := at_L1 HR0.out x5_1 p510 q510
                   obtain rfl : ad505 = ad510 := (by injection e510)
                   have HR510_0 := Aside0.mk hi510_0
                   have HC510_0 := Aside0.mk hl510_0
                   clear hi510_0 hl510_0
                   replace p510 := eq_true p510
                   replace q510 := eq_true q510
                   have ea_ := Option.some.inj (hx505_0.symm.trans hx510_0)
                   injection ea_ with ea_ en_ ec_
                   subst ea_
                   subst ec_
                   clear en_
                   have p511 : 0 ≤ (x6_2 : Int) := of_decide_eq_true (by first | (with_reducible assumption) | assumption)
                   have q511 : x6_2 < ((rd_L1 l0 x5_1).length : Int) := of_decide_eq_true (by first | (with_reducible assumption) | assumption)
                   obtain ⟨ad511, e511, hx511_0⟩ := Kd.at_int HR510_0.out x6_2 p511 q511
                   cases e511
                   replace p511 := eq_true p511
                   replace q511 := eq_true q511
                   have p512 : 0 ≤ ((ji14) : Int) := of_decide_eq_true (by first | (with_reducible assumption) | assumption)
                   have q512 : (ji14) < (l0.length : Int) := of_decide_eq_true (by first | (with_reducible assumption) | assumption)
                   obtain ⟨ad512, A512_0, c512_0, e512, hx512_0, hl512_0, hi512_0⟩ := at_L1 HR0.out (ji14) p512 q512
                   obtain rfl : ad505 = ad512 := (by injection e512)
                   have HR512_0 := Aside0.mk hi512_0
                   have HC512_0 := Aside0.mk hl512_0
                   clear hi512_0 hl512_0
                   replace p512 := eq_true p512
                   replace q512 := eq_true q512
                   have p513 : 0 ≤ (x6_2 : Int) := of_decide_eq_true (by first | (with_reducible assumption) | assumption)
                   have q513 : x6_2 < ((rd_L1 l0 (ji14)).length : Int) := of_decide_eq_true (by first | (with_reducible assumption) | assumption)
                   obtain ⟨ad513, e513, hx513_0⟩ := Kd.at_int HR512_0.out x6_2 p513 q513
                   cases e513
                   replace p513 := eq_true p513
                   replace q513 := eq_true q513
                   go_wp2
                   repeat (go_quiet (fail); try go_wp2)
                   go_ret
                   exact ⟨by first | rfl | (simp; done) | (simp only [← hji9, ← hji14] <;> (first | rfl | simp)) | (simp [*]; done), by repeat (first | exact Drawn0.refl _ | apply Drawn0.step)⟩
                  ·
                   rw [if_neg c18] at H
                   have c18b0 : decide ((rd (rd_L1 l0 x5_1) x6_2) ≤ (rd (rd_L1 l0 (ji14)) x6_2)) = false := decide_eq_false c18
                   clear c18
                   have H' := Aside0.mk H
                   clear H
                   have p505 : 0 ≤ (x5_1 : Int) := of_decide_eq_true (by first | (with_reducible assumption) | assumption)
                   have q505 : x5_1 < (l0.length : Int) := of_decide_eq_true (by first | (with_reducible assumption) | assumption)
                   obtain ⟨ad505, A505_0, c505_0, e505, hx505_0, hl505_0, hi505_0⟩ := at_L1 HR0.out x5_1 p505 q505
                   cases e505
                   have HR505_0 := Aside0.mk hi505_0
                   have HC505_0 := Aside0.mk hl505_0
                   clear hi505_0 hl505_0
                   replace p505 := eq_true p505
                   replace q505 := eq_true q505
                   have p506 : 0 ≤ (x5_1 : Int) := of_decide_eq_true (by first | (with_reducible assumption) | assumption)
                   have q506 : x5_1 < (l0.length : Int) := of_decide_eq_true (by first | (with_reducible assumption) | assumption)
                   obtain ⟨ad506, A506_0, c506_0, e506, hx506_0, hl506_0, hi506_0⟩ := at_L1 HR0.out x5_1 p506 q506
                   obtain rfl : ad505 = ad506 := (by injection e506)
                   have HR506_0 := Aside0.mk hi506_0
                   have HC506_0 := Aside0.mk hl506_0
                   clear hi506_0 hl506_0
                   replace p506 := eq_true p506
                   replace q506 := eq_true q506
                   have ea_ := Option.some.inj (hx505_0.symm.trans hx506_0)
                   injection ea_ with ea_ en_ ec_
                   subst ea_
                   subst ec_
                   clear en_
                   have p507 : 0 ≤ (x6_2 : Int) := of_decide_eq_true (by first | (with_reducible assumption) | assumption)
                   have q507 : x6_2 < ((rd_L1 l0 x5_1).length : Int) := of_decide_eq_true (by first | (with_reducible assumption) | assumption)
                   obtain ⟨ad507, e507, hx507_0⟩ := Kd.at_int HR506_0.out x6_2 p507 q507
                   cases e507
                   replace p507 := eq_true p507
                   replace q507 := eq_true q507
                   have p508 : 0 ≤ (x5_1 : Int) := of_decide_eq_true (by first | (with_reducible assumption) | assumption)
                   have q508 : x5_1 < (l0.length : Int) := of_decide_eq_true (by first | (with_reducible assumption) | assumption)
                   obtain ⟨ad508, A508_0, c508_0, e508, hx508_0, hl508_0, hi508_0⟩ := at_L1 HR0.out x5_1 p508 q508
                   obtain rfl : ad505 = ad508 := (by injection e508)
                   have HR508_0 := Aside0.mk hi508_0
                   have HC508_0 := Aside0.mk hl508_0
                   clear hi508_0 hl508_0
                   replace p508 := eq_true p508
                   replace q508 := eq_true q508
                   have ea_ := Option.some.inj (hx505_0.symm.trans hx508_0)
                   injection ea_ with ea_ en_ ec_
                   subst ea_
                   subst ec_
                   clear en_
                   have p509 : 0 ≤ ((ji9) : Int) := of_decide_eq_true (by first | (with_reducible assumption) | assumption)
                   have q509 : (ji9) < ((rd_L1 l0 x5_1).length : Int) := of_decide_eq_true (by first | (with_reducible assumption) | assumption)
                   obtain ⟨ad509, e509, hx509_0⟩ := Kd.at_int HR508_0.out (ji9) p509 q509
                   cases e509
                   replace p509 := eq_true p509
                   replace q509 := eq_true q509
                   have p510 : 0 ≤ (x5_1 : Int) := of_decide_eq_true (by first | (with_reducible assumption) | assumption)
                   have q510 : x5_1 < (l0.length : Int) := of_decide_eq_true (by first | (with_reducible assumption) | assumption)
                   obtain ⟨ad510, A510_0, c510_0, e510, hx510_0, hl510_0, hi510_0⟩ := at_L1 HR0.out x5_1 p510 q510
                   obtain rfl : ad505 = ad510 := (by injection e510)
                   have HR510_0 := Aside0.mk hi510_0
                   have HC510_0 := Aside0.mk hl510_0
                   clear hi510_0 hl510_0
                   replace p510 := eq_true p510
                   replace q510 := eq_true q510
                   have ea_ := Option.some.inj (hx505_0.symm.trans hx510_0)
                   injection ea_ with ea_ en_ ec_
                   subst ea_
                   subst ec_
                   clear en_
                   have p511 : 0 ≤ (x6_2 : Int) := of_decide_eq_true (by first | (with_reducible assumption) | assumption)
                   have q511 : x6_2 < ((rd_L1 l0 x5_1).length : Int) := of_decide_eq_true (by first | (with_reducible assumption) | assumption)
                   obtain ⟨ad511, e511, hx511_0⟩ := Kd.at_int HR510_0.out x6_2 p511 q511
                   cases e511
                   replace p511 := eq_true p511
                   replace q511 := eq_true q511
                   have p512 : 0 ≤ ((ji14) : Int) := of_decide_eq_true (by first | (with_reducible assumption) | assumption)
                   have q512 : (ji14) < (l0.length : Int) := of_decide_eq_true (by first | (with_reducible assumption) | assumption)
                   obtain ⟨ad512, A512_0, c512_0, e512, hx512_0, hl512_0, hi512_0⟩ := at_L1 HR0.out (ji14) p512 q512
                   obtain rfl : ad505 = ad512 := (by injection e512)
                   have HR512_0 := Aside0.mk hi512_0
                   have HC512_0 := Aside0.mk hl512_0
                   clear hi512_0 hl512_0
                   replace p512 := eq_true p512
                   replace q512 := eq_true q512
                   have p513 : 0 ≤ (x6_2 : Int) := of_decide_eq_true (by first | (with_reducible assumption) | assumption)
                   have q513 : x6_2 < ((rd_L1 l0 (ji14)).length : Int) := of_decide_eq_true (by first | (with_reducible assumption) | assumption)
                   obtain ⟨ad513, e513, hx513_0⟩ := Kd.at_int HR512_0.out x6_2 p513 q513
                   cases e513
                   replace p513 := eq_true p513
                   replace q513 := eq_true q513
                   go_wp2
                   repeat (go_quiet (fail); try go_wp2)
                   go_roundg k2
                   case measure => have := HK1.out; have := HK2.out; omega
                   case rel => exact ⟨(wrap64 (x6_2 + 1)), (by first | rfl | (simp; done) | (simp [*]; done)), H', ⟨by have := HK1.out; have := HK2.out; omega⟩, by repeat (first | exact Drawn0.refl _ | apply Drawn0.step)⟩
                 ·
                  rw [if_neg c17] at H
                  exact absurd H (by simp)
                ·
                 rw [if_neg c16] at H
                 exact absurd H (by simp)
               ·
                rw [if_neg c15] at H
                exact absurd H (by simp)
              ·
               rw [if_neg c13] at H
               have c13b0 : decide (0 < x5_1) = false := decide_eq_false c13
               clear c13
               have H' := Aside0.mk H
               clear H
               have p505 : 0 ≤ (x5_1 : Int) := of_decide_eq_true (by first | (with_reducible assumption) | assumption)
               have q505 : x5_1 < (l0.length : Int) := of_decide_eq_true (by first | (with_reducible assumption) | assumption)
               obtain ⟨ad505, A505_0, c505_0, e505, hx505_0, hl505_0, hi505_0⟩ := at_L1 HR0.out x5_1 p505 q505
               cases e505
               have HR505_0 := Aside0.mk hi505_0
               have HC505_0 := Aside0.mk hl505_0
               clear hi505_0 hl505_0
               replace p505 := eq_true p505
               replace q505 := eq_true q505
               have p506 : 0 ≤ (x5_1 : Int) := of_decide_eq_true (by first | (with_reducible assumption) | assumption)
               have q506 : x5_1 < (l0.length : Int) := of_decide_eq_true (by first | (with_reducible assumption) | assumption)
               obtain ⟨ad506, A506_0, c506_0, e506, hx506_0, hl506_0, hi506_0⟩ := at_L1 HR0.out x5_1 p506 q506
               obtain rfl : ad505 = ad506 := (by injection e506)
               have HR506_0 := Aside0.mk hi506_0
               have HC506_0 := Aside0.mk hl506_0
               clear hi506_0 hl506_0
               replace p506 := eq_true p506
               replace q506 := eq_true q506
               have ea_ := Option.some.inj (hx505_0.symm.trans hx506_0)
               injection ea_ with ea_ en_ ec_
               subst ea_
               subst ec_
               clear en_
               have p507 : 0 ≤ (x6_2 : Int) := of_decide_eq_true (by first | (with_reducible assumption) | assumption)
               have q507 : x6_2 < ((rd_L1 l0 x5_1).length : Int) := of_decide_eq_true (by first | (with_reducible assumption) | assumption)
               obtain ⟨ad507, e507, hx507_0⟩ := Kd.at_int HR506_0.out x6_2 p507 q507
               cases e507
               replace p507 := eq_true p507
               replace q507 := eq_true q507
               have p508 : 0 ≤ (x5_1 : Int) := of_decide_eq_true (by first | (with_reducible assumption) | assumption)
               have q508 : x5_1 < (l0.length : Int) := of_decide_eq_true (by first | (with_reducible assumption) | assumption)
               obtain ⟨ad508, A508_0, c508_0, e508, hx508_0, hl508_0, hi508_0⟩ := at_L1 HR0.out x5_1 p508 q508
               obtain rfl : ad505 = ad508 := (by injection e508)
               have HR508_0 := Aside0.mk hi508_0
               have HC508_0 := Aside0.mk hl508_0
               clear hi508_0 hl508_0
               replace p508 := eq_true p508
               replace q508 := eq_true q508
               have ea_ := Option.some.inj (hx505_0.symm.trans hx508_0)
               injection ea_ with ea_ en_ ec_
               subst ea_
               subst ec_
               clear en_
               have p509 : 0 ≤ ((ji9) : Int) := of_decide_eq_true (by first | (with_reducible assumption) | assumption)
               have q509 : (ji9) < ((rd_L1 l0 x5_1).length : Int) := of_decide_eq_true (by first | (with_reducible assumption) | assumption)
               obtain ⟨ad509, e509, hx509_0⟩ := Kd.at_int HR508_0.out (ji9) p509 q509
               cases e509
               replace p509 := eq_true p509
               replace q509 := eq_true q509
               go_wp2
               repeat (go_quiet (fail); try go_wp2)
               go_roundg k2
               case measure => have := HK1.out; have := HK2.out; omega
               case rel => exact ⟨(wrap64 (x6_2 + 1)), (by first | rfl | (simp; done) | (simp [*]; done)), H', ⟨by have := HK1.out; have := HK2.out; omega⟩, by repeat (first | exact Drawn0.refl _ | apply Drawn0.step)⟩
            ·
             rw [if_neg c11] at H
             exact absurd H (by simp)
           ·
            rw [if_neg c10] at H
            exact absurd H (by simp)
          ·
           rw [if_neg c8] at H
           exact absurd H (by simp)
         ·
          rw [if_neg c7] at H
          have c7b0 : decide (0 < x6_2) = false := decide_eq_false c7
          clear c7
          by_cases c19 : x5_1 > 0
          ·
           rw [if_pos c19] at H
           have c19b0 : decide (0 < x5_1) = true := decide_eq_true c19
           clear c19
           by_cases c20 : 0 ≤ x6_2
           ·
            rw [if_pos c20] at H
            have c20b0 : decide (0 ≤ x6_2) = true := decide_eq_true c20
            clear c20
            obtain ⟨ji21, hji21⟩ : ∃ j_ : Int, (wrap64 (x5_1 - 1)) = j_ := ⟨_, rfl⟩
            replace H : (if 0 ≤ (ji21) then (if (ji21) < (l0.length : Int) then (if x6_2 < ((rd_L1 l0 (ji21)).length : Int) then (if (rd (rd_L1 l0 x5_1) x6_2) ≤ (rd (rd_L1 l0 (ji21)) x6_2) then (some false) else (fippleref08_increasing.l1 k2 l0 a1 x5_1 (wrap64 (x6_2 + 1)))) else (none)) else (none)) else (none)) = some r := by first | (rw [hji21] at H; exact H) | (simp only [hji21] at H ⊢; exact H)
            have hji21w : (IntKind.i64.wrap (x5_1 - 1)) = ji21 := (i64_w _).trans hji21
            by_cases c22 : 0 ≤ (ji21)
            ·
             rw [if_pos c22] at H
             have c22b0 : decide (0 ≤ (ji21)) = true := decide_eq_true c22
             clear c22
             by_cases c23 : (ji21) < (l0.length : Int)
             ·
              rw [if_pos c23] at H
              have c23b0 : decide ((ji21) < (l0.length : Int)) = true := decide_eq_true c23
              clear c23
              by_cases c24 : x6_2 < ((rd_L1 l0 (ji21)).length : Int)
              ·
               rw [if_pos c24] at H
               have c24b0 : decide (x6_2 < ((rd_L1 l0 (ji21)).length : Int)) = true := decide_eq_true c24
               clear c24
               by_cases c25 : (rd (rd_L1 l0 x5_1) x6_2) ≤ (rd (rd_L1 l0 (ji21)) x6_2)
               ·
                rw [if_pos c25] at H
                have c25b0 : decide ((rd (rd_L1 l0 x5_1) x6_2) ≤ (rd (rd_L1 l0 (ji21)) x6_2)) = true := decide_eq_true c25
                clear c25
                obtain rfl := Option.some.inj H
                have p505 : 0 ≤ (x5_1 : Int) := of_decide_eq_true (by first | (with_reducible assumption) | assumption)
                have q505 : x5_1 < (l0.length : Int) := of_decide_eq_true (by first | (with_reducible assumption) | assumption)
                obtain ⟨ad505, A505_0, c505_0, e505, hx505_0, hl505_0, hi505_0⟩ := at_L1 HR0.out x5_1 p505 q505
                cases e505
                have HR505_0 := Aside0.mk hi505_0
                have HC505_0 := Aside0.mk hl505_0
                clear hi505_0 hl505_0
                replace p505 := eq_true p505
                replace q505 := eq_true q505
                have p514 : 0 ≤ (x5_1 : Int) := of_decide_eq_true (by first | (with_reducible assumption) | assumption)
                have q514 : x5_1 < (l0.length : Int) := of_decide_eq_true (by first | (with_reducible assumption) | assumption)
                obtain ⟨ad514, A514_0, c514_0, e514, hx514_0, hl514_0, hi514_0⟩ := at_L1 HR0.out x5_1 p514 q514
                obtain rfl : ad505 = ad514 := (by injection e514)
                have HR514_0 := Aside0.mk hi514_0
                have HC514_0 := Aside0.mk hl514_0
                clear hi514_0 hl514_0
                replace p514 := eq_true p514
                replace q514 := eq_true q514
                have ea_ := Option.some.inj (hx505_0.symm.trans hx514_0)
                injection ea_ with ea_ en_ ec_
                subst ea_
                subst ec_
                clear en_
                have p515 : 0 ≤ (x6_2 : Int) := of_decide_eq_true (by first | (with_reducible assumption) | assumption)
                have q515 : x6_2 < ((rd_L1 l0 x5_1).length : Int) := of_decide_eq_true (by first | (with_reducible assumption) | assumption)
                obtain ⟨ad515, e515, hx515_0⟩ := Kd.at_int HR514_0.out x6_2 p515 q515
                cases e515
                replace p515 := eq_true p515
                replace q515 := eq_true q515
                have p516 : 0 ≤ ((ji21) : Int) := of_decide_eq_true (by first | (with_reducible assumption) | assumption)
                have q516 : (ji21) < (l0.length : Int) := of_decide_eq_true (by first | (with_reducible assumption) | assumption)
                obtain ⟨ad516, A516_0, c516_0, e516, hx516_0, hl516_0, hi516_0⟩ := at_L1 HR0.out (ji21) p516 q516
                obtain rfl : ad505 = ad516 := (by injection e516)
                have HR516_0 := Aside0.mk hi516_0
                have HC516_0 := Aside0.mk hl516_0
                clear hi516_0 hl516_0
                replace p516 := eq_true p516
                replace q516 := eq_true q516
                have p517 : 0 ≤ (x6_2 : Int) := of_decide_eq_true (by first | (with_reducible assumption) | assumption)
                have q517 : x6_2 < ((rd_L1 l0 (ji21)).length : Int) := of_decide_eq_true (by first | (with_reducible assumption) | assumption)
                obtain ⟨ad517, e517, hx517_0⟩ := Kd.at_int HR516_0.out x6_2 p517 q517
                cases e517
                replace p517 := eq_true p517
                replace q517 := eq_true q517
                go_wp2
                repeat (go_quiet (fail); try go_wp2)
                go_ret
                exact ⟨by first | rfl | (simp; done) | (simp only [← hji21] <;> (first | rfl | simp)) | (simp [*]; done), by repeat (first | exact Drawn0.refl _ | apply Drawn0.step)⟩
               ·
                rw [if_neg c25] at H
                have c25b0 : decide ((rd (rd_L1 l0 x5_1) x6_2) ≤ (rd (rd_L1 l0 (ji21)) x6_2)) = false := decide_eq_false c25
                clear c25
                have H' := Aside0.mk H
                clear H
                have p505 : 0 ≤ (x5_1 : Int) := of_decide_eq_true (by first | (with_reducible assumption) | assumption)
                have q505 : x5_1 < (l0.length : Int) := of_decide_eq_true (by first | (with_reducible assumption) | assumption)
                obtain ⟨ad505, A505_0, c505_0, e505, hx505_0, hl505_0, hi505_0⟩ := at_L1 HR0.out x5_1 p505 q505
                cases e505
                have HR505_0 := Aside0.mk hi505_0
                have HC505_0 := Aside0.mk hl505_0
                clear hi505_0 hl505_0
                replace p505 := eq_true p505
                replace q505 := eq_true q505
                have p514 : 0 ≤ (x5_1 : Int) := of_decide_eq_true (by first | (with_reducible assumption) | assumption)
                have q514 : x5_1 < (l0.length : Int) := of_decide_eq_true (by first | (with_reducible assumption) | assumption)
                obtain ⟨ad514, A514_0, c514_0, e514, hx514_0, hl514_0, hi514_0⟩ := at_L1 HR0.out x5_1 p514 q514
                obtain rfl : ad505 = ad514 := (by injection e514)
                have HR514_0 := Aside0.mk hi514_0
                have HC514_0 := Aside0.mk hl514_0
                clear hi514_0 hl514_0
                replace p514 := eq_true p514
                replace q514 := eq_true q514
                have ea_ := Option.some.inj (hx505_0.symm.trans hx514_0)
                injection ea_ with ea_ en_ ec_
                subst ea_
                subst ec_
                clear en_
                have p515 : 0 ≤ (x6_2 : Int) := of_decide_eq_true (by first | (with_reducible assumption) | assumption)
                have q515 : x6_2 < ((rd_L1 l0 x5_1).length : Int) := of_decide_eq_true (by first | (with_reducible assumption) | assumption)
                obtain ⟨ad515, e515, hx515_0⟩ := Kd.at_int HR514_0.out x6_2 p515 q515
                cases e515
                replace p515 := eq_true p515
                replace q515 := eq_true q515
                have p516 : 0 ≤ ((ji21) : Int) := of_decide_eq_true (by first | (with_reducible assumption) | assumption)
                have q516 : (ji21) < (l0.length : Int) := of_decide_eq_true (by first | (with_reducible assumption) | assumption)
                obtain ⟨ad516, A516_0, c516_0, e516, hx516_0, hl516_0, hi516_0⟩ := at_L1 HR0.out (ji21) p516 q516
                obtain rfl : ad505 = ad516 := (by injection e516)
                have HR516_0 := Aside0.mk hi516_0
                have HC516_0 := Aside0.mk hl516_0
                clear hi516_0 hl516_0
                replace p516 := eq_true p516
                replace q516 := eq_true q516
                have p517 : 0 ≤ (x6_2 : Int) := of_decide_eq_true (by first | (with_reducible assumption) | assumption)
                have q517 : x6_2 < ((rd_L1 l0 (ji21)).length : Int) := of_decide_eq_true (by first | (with_reducible assumption) | assumption)
                obtain ⟨ad517, e517, hx517_0⟩ := Kd.at_int HR516_0.out x6_2 p517 q517
                cases e517
                replace p517 := eq_true p517
                replace q517 := eq_true q517
                go_wp2
                repeat (go_quiet (fail); try go_wp2)
                go_roundg k2
                case measure => have := HK1.out; have := HK2.out; omega
                case rel => exact ⟨(wrap64 (x6_2 + 1)), (by first | rfl | (simp; done) | (simp [*]; done)), H', ⟨by have := HK1.out; have := HK2.out; omega⟩, by repeat (first | exact Drawn0.refl _ | apply Drawn0.step)⟩
              ·
               rw [if_neg c24] at H
               exact absurd H (by simp)
             ·
              rw [if_neg c23] at H
              exact absurd H (by simp)
            ·
             rw [if_neg c22] at H
             exact absurd H (by simp)
           ·
            rw [if_neg c20] at H
            exact absurd H (by simp)
          ·
           rw [if_neg c19] at H
           have c19b0 : decide (0 < x5_1) = false := decide_eq_false c19
           clear c19
           have H' := Aside0.mk H
           clear H
           have p505 : 0 ≤ (x5_1 : Int) := of_decide_eq_true (by first | (with_reducible assumption) | assumption)
           have q505 : x5_1 < (l0.length : Int) := of_decide_eq_true (by first | (with_reducible assumption) | assumption)
           obtain ⟨ad505, A505_0, c505_0, e505, hx505_0, hl505_0, hi505_0⟩ := at_L1 HR0.out x5_1 p505 q505
           cases e505
           have HR505_0 := Aside0.mk hi505_0
           have HC505_0 := Aside0.mk hl505_0
           clear hi505_0 hl505_0
           replace p505 := eq_true p505
           replace q505 := eq_true q505
           go_wp2
           repeat (go_quiet (fail); try go_wp2)
           go_roundg k2
           case measure => have := HK1.out; have := HK2.out; omega
           case rel => exact ⟨(wrap64 (x6_2 + 1)), (by first | rfl | (simp; done) | (simp [*]; done)), H', ⟨by have := HK1.out; have := HK2.out; omega⟩, by repeat (first | exact Drawn0.refl _ | apply Drawn0.step)⟩
        ·
         rw [if_neg c6] at H
         have c6b0 : decide (x6_2 < ((rd_L1 l0 x5_1).length : Int)) = false := decide_eq_false c6
         clear c6
         have H' := Aside0.mk H
         clear H
         have p505 : 0 ≤ (x5_1 : Int) := of_decide_eq_true (by first | (with_reducible assumption) | assumption)
         have q505 : x5_1 < (l0.length : Int) := of_decide_eq_true (by first | (with_reducible assumption) | assumption)
         obtain ⟨ad505, A505_0, c505_0, e505, hx505_0, hl505_0, hi505_0⟩ := at_L1 HR0.out x5_1 p505 q505
         cases e505
         have HR505_0 := Aside0.mk hi505_0
         have HC505_0 := Aside0.mk hl505_0
         clear hi505_0 hl505_0
         replace p505 := eq_true p505
         replace q505 := eq_true q505
         go_wp2
         repeat (go_quiet (fail); try go_wp2)
         go_roundg k2
         case measure => have := HK1.out; have := HK2.out; omega
         case rel => exact ⟨(wrap64 (x5_1 + 1)), (by first | rfl | (simp; done) | (simp [*]; done)), H', ⟨by have := HK1.out; have := HK2.out; omega⟩, by repeat (first | exact Drawn0.refl _ | apply Drawn0.step)⟩
       ·
        rw [if_neg c5] at H
        exact absurd H (by simp)
      ·
       rw [if_neg c4] at H
       exact absurd H (by simp)
   ·
    rw [if_neg c3] at H
    have c3b0 : decide (x5_1 < (l0.length : Int)) = false := decide_eq_false c3
    clear c3
    obtain rfl := Option.some.inj H
    go_wp2
    repeat (go_quiet (fail); try go_wp2)
    go_ret
    exact ⟨by first | rfl | (simp; done) | (simp [*]; done), by repeat (first | exact Drawn0.refl _ | apply Drawn0.step)⟩

/-! ### fippleref08_CheckRack: function 11 -/
def fippleref08_CheckRack.l0 : Nat → List (List Int) → List Int → Int → Option (Int)
 | 0, _, _, _ => none
 | k + 1, x0, x3, x4 => if x4 < (x3.length : Int) then (if 0 ≤ x4 then (if (rd x3 x4) < 1 then (some 3) else (if (rd x3 x4) > 99 then (some 3) else (fippleref08_CheckRack.l0 k x0 x3 (wrap64 (x4 + 1))))) else (none)) else ((fippleref08_shaped.f k x0).bind fun t523 => (if t523 = true then ((fippleref08_increasing.f k x0 0).bind fun t524 => (if t524 = true then (some 0) else (some 22))) else (some 22)))
def fippleref08_CheckRack.f (k : Nat) (l0 : List (List Int)) : Option (Int) := (fippleref08_all.f k l0).bind fun t518 => (if (t518.length : Int) > 12 then (some 6) else (fippleref08_CheckRack.l0 k l0 t518 0))
theorem fippleref08_CheckRack.mono_l : ∀ k, (∀ y0 y1 y2, LeO (fippleref08_CheckRack.l0 k y0 y1 y2) (fippleref08_CheckRack.l0 (k + 1) y0 y1 y2))
 | 0 => fun _ _ _ r h => by simp [fippleref08_CheckRack.l0] at h
 | k + 1 => by
  have ih0 := fippleref08_CheckRack.mono_l k
  ·
   intro y0 y1 y2
   unfold fippleref08_CheckRack.l0
   repeat' first
   | (with_reducible exact ih0 _ _ _)
   | (with_reducible exact fippleref08_all.mono _ _)
   | (with_reducible exact fippleref08_increasing.mono _ _ _)
   | (with_reducible exact fippleref08_shaped.mono _ _)
   | (with_reducible exact LeO.refl _)
   | (with_reducible exact LeO.none _)
   | (with_reducible refine LeO.ite ?_ ?_)
   | (with_reducible refine LeO.bind ?_ (fun _ => ?_))
   | exact ih0 _ _ _
   | exact fippleref08_all.mono _ _
   | exact fippleref08_increasing.mono _ _ _
   | exact fippleref08_shaped.mono _ _
   | exact LeO.none _
   | refine LeO.ite ?_ ?_
   | refine LeO.bind ?_ (fun _ => ?_)
theorem fippleref08_CheckRack.mono : ∀ a0 k, LeO (fippleref08_CheckRack.f k a0) (fippleref08_CheckRack.f (k + 1) a0) := by
 intro a0 k
 have ih0 := fippleref08_CheckRack.mono_l k
 unfold fippleref08_CheckRack.f
 repeat' first
   | (with_reducible exact ih0 _ _ _)
   | (with_reducible exact fippleref08_all.mono _ _)
   | (with_reducible exact fippleref08_increasing.mono _ _ _)
   | (with_reducible exact fippleref08_shaped.mono _ _)
   | (with_reducible exact LeO.refl _)
   | (with_reducible exact LeO.none _)
   | (with_reducible refine LeO.ite ?_ ?_)
   | (with_reducible refine LeO.bind ?_ (fun _ => ?_))
   | exact ih0 _ _ _
   | exact fippleref08_all.mono _ _
   | exact fippleref08_increasing.mono _ _ _
   | exact fippleref08_shaped.mono _ _
   | exact LeO.none _
   | refine LeO.ite ?_ ?_
   | refine LeO.bind ?_ (fun _ => ?_)
set_option maxHeartbeats 8000000 in
set_option maxRecDepth 100000 in
theorem fippleref08_CheckRack.calls (k : Nat) (A0 : Option Addr) (c0 : Nat) (l0 : List (List Int)) (r : Int) (w : World) (hr0 : Kd.C (Kd.slice 3 (Kd.int .i64)) w A0 l0.length l0) (hc0 : l0.length ≤ c0) (h : fippleref08_CheckRack.f k l0 = some r) :
  Calls Try.prog 11 #[.slice A0 l0.length c0] w fun e w' => e = .returned (.int .i64 r) ∧ Below w.heap.size w w' := by
 have HR0 := Aside0.mk hr0
 have HC0 := Aside0.mk hc0
 clear hr0 hc0
 have HB := Aside0.mk (Below.refl w.heap.size w)
 have H : ((fippleref08_all.f k l0).bind fun t518 => (if (t518.length : Int) > 12 then (some 6) else (fippleref08_CheckRack.l0 k l0 t518 0))) = some r := h
 clear h
 replace H := Option.bind_eq_some_iff.mp H
 obtain ⟨t518, A20, H⟩ := H
 replace H : (if (t518.length : Int) > 12 then (some 6) else (fippleref08_CheckRack.l0 k l0 t518 0)) = some r := H
 have A2 := Aside0.mk A20
 clear A20
 by_cases c3 : (t518.length : Int) > 12
 ·
  rw [if_pos c3] at H
  have c3b0 : decide (12 < (t518.length : Int)) = true := decide_eq_true c3
  have c3b1 : decide (12 < t518.length) = true := decide_eq_true (by omega)
  clear c3
  obtain rfl := Option.some.inj H
  go_enter Try.func11, Try.ntmps11
  go_wp2_with (first | ((with_reducible refine gate_callee (f := 45) rfl ?_); refine goesL_ (some 6) rfl rfl Try.func45 (by kernel_rfl) rfl #[.slice A0 l0.length c0] rfl (by (try simp only [List.map_toArray, List.map_cons, List.map_nil]); first | done | rfl | (simp only [List.length_drop, List.length_take]; rfl)) ?_; (with_reducible refine (fippleref08_all.calls k _ _ l0 t518 _ ?side1 ?side2 A2.out).mono ?_); (case side1 => repeat (first | exact HR0.out | (with_reducible refine Kd.C_alloc ?_ _) | (with_reducible refine Kd.C_drewN ?_ _) | (with_reducible refine Kd.C_drew ?_))); (case side2 => exact HC0.out); rintro e w4 ⟨v519, rfl, ho0, hb⟩; refine ⟨_, rfl, ?_⟩; have n0_ := Aside0.mk (Kd.R_lower ho0 (below_size (by repeat (first | (with_reducible first | exact HB.out | apply below_alloc | apply pw_below_drewN | apply below_drew1) | exact HB.out)))); have n1_ := Aside0.mk (below_step (by repeat (first | (with_reducible first | exact HB.out | apply below_alloc | apply pw_below_drewN | apply below_drew1) | exact HB.out)) hb); clear HB; have HO520 := n0_; have HB := n1_; clear n0_ n1_; (try clear hb); (try clear hb2); (try clear hk); (try clear hi); (try clear ho0); obtain ⟨Ao5, co5, eo5⟩ := Kd.R_slice HO520.out; subst eo5))
  go_ret
  exact ⟨by first | rfl | (simp [errW_none, errW_some] <;> rfl) | (simp [*, errW_none, errW_some] <;> rfl), by repeat (first | (with_reducible first | exact HB.out | apply below_alloc | apply pw_below_drewN | apply below_drew1) | exact HB.out)⟩
 ·
  rw [if_neg c3] at H
  have c3b0 : decide (12 < (t518.length : Int)) = false := decide_eq_false c3
  have c3b1 : decide (12 < t518.length) = false := decide_eq_false (by omega)
  clear c3
  have H' := Aside0.mk H
  clear H
  go_enter Try.func11, Try.ntmps11
  go_wp2_with (first | ((with_reducible refine gate_callee (f := 45) rfl ?_); refine goesL_ (some 6) rfl rfl Try.func45 (by kernel_rfl) rfl #[.slice A0 l0.length c0] rfl (by (try simp only [List.map_toArray, List.map_cons, List.map_nil]); first | done | rfl | (simp only [List.length_drop, List.length_take]; rfl)) ?_; (with_reducible refine (fippleref08_all.calls k _ _ l0 t518 _ ?side1 ?side2 A2.out).mono ?_); (case side1 => repeat (first | exact HR0.out | (with_reducible refine Kd.C_alloc ?_ _) | (with_reducible refine Kd.C_drewN ?_ _) | (with_reducible refine Kd.C_drew ?_))); (case side2 => exact HC0.out); rintro e w6 ⟨v519, rfl, ho0, hb⟩; refine ⟨_, rfl, ?_⟩; have n0_ := Aside0.mk (Kd.R_lower ho0 (below_size (by repeat (first | (with_reducible first | exact HB.out | apply below_alloc | apply pw_below_drewN | apply below_drew1) | exact HB.out)))); have n1_ := Aside0.mk (below_step (by repeat (first | (with_reducible first | exact HB.out | apply below_alloc | apply pw_below_drewN | apply below_drew1) | exact HB.out)) hb); clear HB; have HO520 := n0_; have HB := n1_; clear n0_ n1_; (try clear hb); (try clear hb2); (try clear hk); (try clear hi); (try clear ho0); obtain ⟨Ao7, co7, eo7⟩ := Kd.R_slice HO520.out; subst eo7))
  go_loopg [4] k (fun kq v4 w' => ∃ (x4_1 : Int), v4 = .int .i64 x4_1 ∧ Aside0 (fippleref08_CheckRack.l0 kq l0 t518 x4_1 = some r) ∧ Aside0 (kq ≤ k) ∧ Aside0 (Kd.R (Kd.int .i64) 3 w' w.heap.size (fun _ => True) (.slice Ao7 t518.length co7) t518) ∧ Aside0 (Below w.heap.size w w'))
  case atStart => exact ⟨(0), (by first | rfl | (simp; done) | (simp [*]; done)), H', ⟨Nat.le_refl _⟩, ⟨by (with_reducible repeat (first | apply Kd.R_alloc | apply Kd.R_drewN | apply Kd.R_drew)); exact HO520.out⟩, ⟨by repeat (first | (with_reducible first | exact HB.out | apply below_alloc | apply pw_below_drewN | apply below_drew1) | exact HB.out)⟩⟩
  case round =>
   clear H'
   try clear c1
   try clear p2
   try clear c3
   try clear c3b0
   try clear c3b1
   try clear c4
   obtain ⟨x4_1, rfl, HA, HK1, HO_3, HB⟩ := hrel
   cases gk with
   | zero => exact absurd HA.out (by simp [fippleref08_CheckRack.l0])
   | succ k1 =>
    have H := HA.out
    clear HA
    simp only [fippleref08_CheckRack.l0] at H
    by_cases c8 : x4_1 < (t518.length : Int)
    ·
     rw [if_pos c8] at H
     have c8b0 : decide (x4_1 < (t518.length : Int)) = true := decide_eq_true c8
     clear c8
     by_cases c9 : 0 ≤ x4_1
     ·
      rw [if_pos c9] at H
      have c9b0 : decide (0 ≤ x4_1) = true := decide_eq_true c9
      clear c9
      by_cases c10 : (rd t518 x4_1) < 1
      ·
       rw [if_pos c10] at H
       have c10b0 : decide ((rd t518 x4_1) < 1) = true := decide_eq_true c10
       clear c10
       obtain rfl := Option.some.inj H
       have p521 : 0 ≤ (x4_1 : Int) := of_decide_eq_true (by first | (with_reducible assumption) | assumption)
       have q521 : x4_1 < (t518.length : Int) := of_decide_eq_true (by first | (with_reducible assumption) | assumption)
       obtain ⟨ad521, e521, hx521_0⟩ := Kd.at_int (Kd.R_reads' HO_3.out).2.2 x4_1 p521 q521
       cases e521
       replace p521 := eq_true p521
       replace q521 := eq_true q521
       go_wp2
       go_ret
       exact ⟨by first | rfl | (simp [errW_none, errW_some] <;> rfl) | (simp [*, errW_none, errW_some] <;> rfl), by repeat (first | (with_reducible first | exact HB.out | apply below_alloc | apply pw_below_drewN | apply below_drew1) | exact HB.out)⟩
      ·
       rw [if_neg c10] at H
       have c10b0 : decide ((rd t518 x4_1) < 1) = false := decide_eq_false c10
       clear c10
       by_cases c11 : (rd t518 x4_1) > 99
       ·
        rw [if_pos c11] at H
        have c11b0 : decide (99 < (rd t518 x4_1)) = true := decide_eq_true c11
        clear c11
        obtain rfl := Option.some.inj H
        have p521 : 0 ≤ (x4_1 : Int) := of_decide_eq_true (by first | (with_reducible assumption) | assumption)
        have q521 : x4_1 < (t518.length : Int) := of_decide_eq_true (by first | (with_reducible assumption) | assumption)
        obtain ⟨ad521, e521, hx521_0⟩ := Kd.at_int (Kd.R_reads' HO_3.out).2.2 x4_1 p521 q521
        cases e521
        replace p521 := eq_true p521
        replace q521 := eq_true q521
        have p522 : 0 ≤ (x4_1 : Int) := of_decide_eq_true (by first | (with_reducible assumption) | assumption)
        have q522 : x4_1 < (t518.length : Int) := of_decide_eq_true (by first | (with_reducible assumption) | assumption)
        obtain ⟨ad522, e522, hx522_0⟩ := Kd.at_int (Kd.R_reads' HO_3.out).2.2 x4_1 p522 q522
        obtain rfl : ad521 = ad522 := (by injection e522)
        replace p522 := eq_true p522
        replace q522 := eq_true q522
        go_wp2
        go_ret
        exact ⟨by first | rfl | (simp [errW_none, errW_some] <;> rfl) | (simp [*, errW_none, errW_some] <;> rfl), by repeat (first | (with_reducible first | exact HB.out | apply below_alloc | apply pw_below_drewN | apply below_drew1) | exact HB.out)⟩
       ·
        rw [if_neg c11] at H
        have c11b0 : decide (99 < (rd t518 x4_1)) = false := decide_eq_false c11
        clear c11
        have H' := Aside0.mk H
        clear H
        have p521 : 0 ≤ (x4_1 : Int) := of_decide_eq_true (by first | (with_reducible assumption) | assumption)
        have q521 : x4_1 < (t518.length : Int) := of_decide_eq_true (by first | (with_reducible assumption) | assumption)
        obtain ⟨ad521, e521, hx521_0⟩ := Kd.at_int (Kd.R_reads' HO_3.out).2.2 x4_1 p521 q521
        cases e521
        replace p521 := eq_true p521
        replace q521 := eq_true q521
        have p522 : 0 ≤ (x4_1 : Int) := of_decide_eq_true (by first | (with_reducible assumption) | assumption)
        have q522 : x4_1 < (t518.length : Int) := of_decide_eq_true (by first | (with_reducible assumption) | assumption)
        obtain ⟨ad522, e522, hx522_0⟩ := Kd.at_int (Kd.R_reads' HO_3.out).2.2 x4_1 p522 q522
        obtain rfl : ad521 = ad522 := (by injection e522)
        replace p522 := eq_true p522
        replace q522 := eq_true q522
        go_wp2
        go_roundg k1
        case measure => have := HK1.out; omega
        case rel => exact ⟨(wrap64 (x4_1 + 1)), (by first | rfl | (simp; done) | (simp [*]; done)), H', ⟨by have := HK1.out; omega⟩, ⟨by (with_reducible repeat (first | apply Kd.R_alloc | apply Kd.R_drewN | apply Kd.R_drew)); exact HO_3.out⟩, ⟨by repeat (first | (with_reducible first | exact HB.out | apply below_alloc | apply pw_below_drewN | apply below_drew1) | exact HB.out)⟩⟩
     ·
      rw [if_neg c9] at H
      exact absurd H (by simp)
    ·
     rw [if_neg c8] at H
     have c8b0 : decide (x4_1 < (t518.length : Int)) = false := decide_eq_false c8
     clear c8
     replace H := Option.bind_eq_some_iff.mp H
     obtain ⟨t523, A120, H⟩ := H
     replace H : (if t523 = true then ((fippleref08_increasing.f k1 l0 0).bind fun t524 => (if t524 = true then (some 0) else (some 22))) else (some 22)) = some r := H
     have A12 := Aside0.mk A120
     clear A120
     by_cases c13 : t523 = true
     ·
      subst c13
      have H1 : ((fippleref08_increasing.f k1 l0 0).bind fun t524 => (if t524 = true then (some 0) else (some 22))) = some r := by rw [if_pos rfl] at H; exact H
      clear H
      have H := H1
      clear H1
      replace H := Option.bind_eq_some_iff.mp H
      obtain ⟨t524, A140, H⟩ := H
      replace H : (if t524 = true then (some 0) else (some 22)) = some r := H
      have A14 := Aside0.mk A140
      clear A140
      by_cases c15 : t524 = true
      ·
       subst c15
       have H1 : (some 0) = some r := by rw [if_pos rfl] at H; exact H
       clear H
       have H := H1
       clear H1
       obtain rfl := Option.some.inj H
       go_wp2_with (first | ((with_reducible refine gate_callee (f := 46) rfl ?_); refine goesL_ (some 29) rfl rfl Try.func46 (by kernel_rfl) rfl #[.slice A0 l0.length c0] rfl (by (try simp only [List.map_toArray, List.map_cons, List.map_nil]); first | done | rfl | (simp only [List.length_drop, List.length_take]; rfl)) ?_; (with_reducible refine (fippleref08_shaped.calls k1 _ _ l0 true _ ?side1 ?side2 A12.out).mono ?_); (case side1 => repeat (first | exact (Kd.C_below HR0.out HB.out) | (with_reducible refine Kd.C_alloc ?_ _) | (with_reducible refine Kd.C_drewN ?_ _) | (with_reducible refine Kd.C_drew ?_))); (case side2 => exact HC0.out); rintro e w' ⟨rfl, ⟨nd, rfl⟩⟩; refine ⟨_, rfl, ?_⟩) | (go_at_call 47; (with_reducible refine (fippleref08_increasing.calls k1 _ _ l0 0 true _ ?side1 ?side2 A14.out).mono ?_); (case side1 => repeat (first | exact (Kd.C_below HR0.out (by repeat (first | (with_reducible first | exact HB.out | apply below_alloc | apply pw_below_drewN | apply below_drew1) | exact HB.out))) | (with_reducible refine Kd.C_alloc ?_ _) | (with_reducible refine Kd.C_drewN ?_ _) | (with_reducible refine Kd.C_drew ?_))); (case side2 => exact HC0.out); rintro e w' ⟨rfl, ⟨nd, rfl⟩⟩))
       go_ret
       exact ⟨by first | rfl | (simp [errW_none, errW_some] <;> rfl) | (simp [*, errW_none, errW_some] <;> rfl), by repeat (first | (with_reducible first | exact HB.out | apply below_alloc | apply pw_below_drewN | apply below_drew1) | exact HB.out)⟩
      ·
       replace c15 := Bool.eq_false_iff.mpr c15
       subst c15
       have H1 : (some 22) = some r := by rw [if_neg (show ¬ (false = true) by decide)] at H; exact H
       clear H
       have H := H1
       clear H1
       obtain rfl := Option.some.inj H
       go_wp2_with (first | ((with_reducible refine gate_callee (f := 46) rfl ?_); refine goesL_ (some 29) rfl rfl Try.func46 (by kernel_rfl) rfl #[.slice A0 l0.length c0] rfl (by (try simp only [List.map_toArray, List.map_cons, List.map_nil]); first | done | rfl | (simp only [List.length_drop, List.length_take]; rfl)) ?_; (with_reducible refine (fippleref08_shaped.calls k1 _ _ l0 true _ ?side1 ?side2 A12.out).mono ?_); (case side1 => repeat (first | exact (Kd.C_below HR0.out HB.out) | (with_reducible refine Kd.C_alloc ?_ _) | (with_reducible refine Kd.C_drewN ?_ _) | (with_reducible refine Kd.C_drew ?_))); (case side2 => exact HC0.out); rintro e w' ⟨rfl, ⟨nd, rfl⟩⟩; refine ⟨_, rfl, ?_⟩) | (go_at_call 47; (with_reducible refine (fippleref08_increasing.calls k1 _ _ l0 0 false _ ?side1 ?side2 A14.out).mono ?_); (case side1 => repeat (first | exact (Kd.C_below HR0.out (by repeat (first | (with_reducible first | exact HB.out | apply below_alloc | apply pw_below_drewN | apply below_drew1) | exact HB.out))) | (with_reducible refine Kd.C_alloc ?_ _) | (with_reducible refine Kd.C_drewN ?_ _) | (with_reducible refine Kd.C_drew ?_))); (case side2 => exact HC0.out); rintro e w' ⟨rfl, ⟨nd, rfl⟩⟩))
       go_ret
       exact ⟨by first | rfl | (simp [errW_none, errW_some] <;> rfl) | (simp [*, errW_none, errW_some] <;> rfl), by repeat (first | (with_reducible first | exact HB.out | apply below_alloc | apply pw_below_drewN | apply below_drew1) | exact HB.out)⟩
     ·
      replace c13 := Bool.eq_false_iff.mpr c13
      subst c13
      have H1 : (some 22) = some r := by rw [if_neg (show ¬ (false = true) by decide)] at H; exact H
      clear H
      have H := H1
      clear H1
      obtain rfl := Option.some.inj H
      go_wp2_with (first | ((with_reducible refine gate_callee (f := 46) rfl ?_); refine goesL_ (some 29) rfl rfl Try.func46 (by kernel_rfl) rfl #[.slice A0 l0.length c0] rfl (by (try simp only [List.map_toArray, List.map_cons, List.map_nil]); first | done | rfl | (simp only [List.length_drop, List.length_take]; rfl)) ?_; (with_reducible refine (fippleref08_shaped.calls k1 _ _ l0 false _ ?side1 ?side2 A12.out).mono ?_); (case side1 => repeat (first | exact (Kd.C_below HR0.out HB.out) | (with_reducible refine Kd.C_alloc ?_ _) | (with_reducible refine Kd.C_drewN ?_ _) | (with_reducible refine Kd.C_drew ?_))); (case side2 => exact HC0.out); rintro e w' ⟨rfl, ⟨nd, rfl⟩⟩; refine ⟨_, rfl, ?_⟩))
      go_ret
      exact ⟨by first | rfl | (simp [errW_none, errW_some] <;> rfl) | (simp [*, errW_none, errW_some] <;> rfl), by repeat (first | (with_reducible first | exact HB.out | apply below_alloc | apply pw_below_drewN | apply below_drew1) | exact HB.out)⟩

end Go.Proofs.Ytpbemjdaanlaoaa.Pr
