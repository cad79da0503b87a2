/- Lemmas for the laws of rack: RQ, W0. -/
import Derived.Test.YtpbemjdaanlaoaaPr0
import Derived.Test.YtpbemjdaanlaoaaPr1
import Derived.Test.YtpbemjdaanlaoaaN0
import Derived.Test.YtpbemjdaanlaoaaN8
import Derived.Test.YtpbemjdaanlaoaaN1
import Derived.Test.YtpbemjdaanlaoaaN5
import Derived.Test.YtpbemjdaanlaoaaN6
import Derived.Test.YtpbemjdaanlaoaaN7
import Derived.Test.YtpbemjdaanlaoaaN9
import Derived.Test.YtpbemjdaanlaoaaRD
set_option linter.unusedVariables false
set_option linter.unusedSimpArgs false
/- Printed out of the translation by the kit's print.py: contracts of rack_Count. -/
namespace Go.Proofs.Ytpbemjdaanlaoaa.Pr
open Go.RowKit Go.Proofs.YtpbemjdaanlaoaaW.PrintWords Go.Proofs.YtpbemjdaanlaoaaW.PrintLast Go.Proofs.YtpbemjdaanlaoaaW.PrintMore
attribute [local go_sem] max2_int min2_int max_two min_two max_three min_three max_four min_four   -- for this text's walks alone
set_option linter.unusedVariables false
set_option linter.unusedSimpArgs false
-- BY HAND: function 10 (rack_CheckRack)
-- BY HAND: function 12 (rack_CheckOrder)
-- BY HAND: function 19 (rack_Build)
-- BY HAND: function 57 (fippleref08_BuildOf)
/-! ### rack_Count: function 28 -/
def rack_Count.l0 : Nat → Int → Int → List Int → Int → Int → Option (Int × Int)
 | 0, _, _, _, _, _ => none
 | k + 1, x6, x7, x19, x20, x21 => if x21 < x20 then (if 0 ≤ x21 then (if x21 < (x19.length : Int) then (rack_Count.l0 k (wrap64 (x6 * (wrap64 (x21 + 1)))) (wrap64 (x7 * (rd x19 x21))) x19 x20 (wrap64 (x21 + 1))) else (none)) else (none)) else (if x7 = 0 then (none) else (some (wrap64 (Int.tdiv x6 x7), 0)))
def rack_Count.f (k : Nat) (l0 : List Int) : Option (Int × Int) := (rack_Hooks.f l0).bind fun bt266 => (if bt266.2 = 0 then ((slices_Concat_int_int.f bt266.1).bind fun t270 => (rack_Count.l0 k 1 1 t270 (t270.length : Int) 0)) else (some (0, bt266.2)))
theorem rack_Count.mono_l : ∀ k, (∀ y0 y1 y2 y3 y4, LeO (rack_Count.l0 k y0 y1 y2 y3 y4) (rack_Count.l0 (k + 1) y0 y1 y2 y3 y4))
 | 0 => fun _ _ _ _ _ r h => by simp [rack_Count.l0] at h
 | k + 1 => by
  have ih0 := rack_Count.mono_l k
  ·
   intro y0 y1 y2 y3 y4
   unfold rack_Count.l0
   repeat' first
   | (with_reducible exact ih0 _ _ _ _ _)
   | (with_reducible exact LeO.refl _)
   | (with_reducible exact LeO.none _)
   | (with_reducible refine LeO.ite ?_ ?_)
   | (with_reducible refine LeO.bind ?_ (fun _ => ?_))
   | exact ih0 _ _ _ _ _
   | exact LeO.none _
   | refine LeO.ite ?_ ?_
   | refine LeO.bind ?_ (fun _ => ?_)
theorem rack_Count.mono : ∀ a0 k, LeO (rack_Count.f k a0) (rack_Count.f (k + 1) a0) := by
 intro a0 k
 have ih0 := rack_Count.mono_l k
 unfold rack_Count.f
 repeat' first
   | (with_reducible exact ih0 _ _ _ _ _)
   | (with_reducible exact LeO.refl _)
   | (with_reducible exact LeO.none _)
   | (with_reducible refine LeO.ite ?_ ?_)
   | (with_reducible refine LeO.bind ?_ (fun _ => ?_))
   | exact ih0 _ _ _ _ _
   | exact LeO.none _
   | refine LeO.ite ?_ ?_
   | refine LeO.bind ?_ (fun _ => ?_)
set_option maxHeartbeats 8000000 in
set_option maxRecDepth 100000 in
theorem rack_Count.calls (k : Nat) (A0 : Option Addr) (c0 : Nat) (l0 : List Int) (r1 : Int) (r2 : Int) (w : World) (hr0 : Kd.C (Kd.int .i64) w A0 l0.length l0) (hc0 : l0.length ≤ c0) (h : rack_Count.f k l0 = some (r1, r2)) :
  Calls Try.prog 28 #[.slice A0 l0.length c0] w fun e w' => e = .returned (.tuple #[.int .i64 r1, .int .i64 r2]) ∧ Below w.heap.size w w' := by
 have HR0 := Aside0.mk hr0
 have HC0 := Aside0.mk hc0
 clear hr0 hc0
 have HB := Aside0.mk (Below.refl w.heap.size w)
 have H : ((rack_Hooks.f l0).bind fun bt266 => (if bt266.2 = 0 then ((slices_Concat_int_int.f bt266.1).bind fun t270 => (rack_Count.l0 k 1 1 t270 (t270.length : Int) 0)) else (some (0, bt266.2)))) = some (r1, r2) := h
 clear h
 replace H := Option.bind_eq_some_iff.mp H
 obtain ⟨⟨t266, t267⟩, A20, H⟩ := H
 replace H : (if t267 = 0 then ((slices_Concat_int_int.f t266).bind fun t270 => (rack_Count.l0 k 1 1 t270 (t270.length : Int) 0)) else (some (0, t267))) = some (r1, r2) := H
 have A2 := Aside0.mk A20
 clear A20
 by_cases c3 : t267 = 0
 ·
  rw [if_pos c3] at H
  have c3b0 : (t267 == 0) = true := beq_iff_eq.mpr c3
  have c3b1 : (t267 != 0) = false := bne_eq_false_iff_eq.mpr c3
  clear c3
  replace H := Option.bind_eq_some_iff.mp H
  obtain ⟨t270, A40, H⟩ := H
  replace H : (rack_Count.l0 k 1 1 t270 (t270.length : Int) 0) = some (r1, r2) := H
  have A4 := Aside0.mk A40
  clear A40
  have H' := Aside0.mk H
  clear H
  go_enter Try.func28, Try.ntmps28
  go_wp2_with (first | ((with_reducible refine gate_callee (f := 26) rfl ?_); refine goesL_ (some 12) rfl rfl Try.func26 (by kernel_rfl) rfl #[.slice A0 l0.length c0] rfl (by (try simp only [List.map_toArray, List.map_cons, List.map_nil]); first | done | rfl | (simp only [List.length_drop, List.length_take]; rfl)) ?_; (with_reducible refine (rack_Hooks.calls _ _ l0 t266 t267 _ ?side1 ?side2 A2.out).mono ?_); (case side1 => repeat (first | exact HR0.out | (with_reducible refine Kd.C_alloc ?_ _) | (with_reducible refine Kd.C_drewN ?_ _) | (with_reducible refine Kd.C_drew ?_))); (case side2 => exact HC0.out); rintro e w5 ⟨v268, rfl, ho0, hb⟩; refine ⟨_, rfl, ?_⟩; have n0_ := Aside0.mk (Kd.S_lower ho0 (below_size (by repeat (first | (with_reducible first | exact HB.out | apply below_alloc | apply pw_below_drewN | apply below_drew1) | exact HB.out)))); have n1_ := Aside0.mk (below_step (by repeat (first | (with_reducible first | exact HB.out | apply below_alloc | apply pw_below_drewN | apply below_drew1) | exact HB.out)) hb); clear HB; have HO269 := n0_; have HB := n1_; clear n0_ n1_; (try clear hb); (try clear hb2); (try clear hk); (try clear hi); (try clear ho0); obtain ⟨Ao6, co6, eo6⟩ := Kd.S_slice HO269.out; subst eo6) | ((with_reducible refine gate_callee (f := 41) rfl ?_); refine goesL_ (some 19) rfl rfl Try.func41 (by kernel_rfl) rfl #[.slice Ao6 t266.length co6] rfl (by (try simp only [List.map_toArray, List.map_cons, List.map_nil]); first | done | rfl | (simp only [List.length_drop, List.length_take]; rfl)) ?_; (with_reducible refine (slices_Concat_int_int.calls _ _ t266 t270 _ ?side1 ?side2 A4.out).mono ?_); (case side1 => repeat (first | exact (Kd.S_reads' HO269.out).2.2 | (with_reducible refine Kd.C_alloc ?_ _) | (with_reducible refine Kd.C_drewN ?_ _) | (with_reducible refine Kd.C_drew ?_))); (case side2 => exact (Kd.S_reads' HO269.out).2.1); rintro e w7 ⟨v271, rfl, ho0, hb⟩; refine ⟨_, rfl, ?_⟩; have n0_ := Aside0.mk (Kd.S_elder' (by (with_reducible repeat (first | apply Kd.S_alloc | apply Kd.S_drewN | apply Kd.S_drew)); exact HO269.out) (Kd.R_base ho0) hb); have n1_ := Aside0.mk (Kd.R_lower ho0 (below_size (by repeat (first | (with_reducible first | exact HB.out | apply below_alloc | apply pw_below_drewN | apply below_drew1) | exact HB.out)))); have n2_ := Aside0.mk (below_step (by repeat (first | (with_reducible first | exact HB.out | apply below_alloc | apply pw_below_drewN | apply below_drew1) | exact HB.out)) hb); clear HO269; clear HB; have HO269 := n0_; have HO272 := n1_; have HB := n2_; clear n0_ n1_ n2_; (try clear hb); (try clear hb2); (try clear hk); (try clear hi); (try clear ho0); obtain ⟨Ao8, co8, eo8⟩ := Kd.R_slice HO272.out; subst eo8))
  go_loopg [6, 7, 21] k (fun kq v6 v7 v21 w' => ∃ (x6_1 : Int) (x7_1 : Int) (x21_1 : Int), v6 = .int .i64 x6_1 ∧ v7 = .int .i64 x7_1 ∧ v21 = .int .i64 x21_1 ∧ Aside0 (rack_Count.l0 kq x6_1 x7_1 t270 (t270.length : Int) x21_1 = some (r1, r2)) ∧ Aside0 (kq ≤ k) ∧ Aside0 (Kd.R (Kd.int .i64) 3 w' w.heap.size (fun _ => True) (.slice Ao8 t270.length co8) t270) ∧ Aside0 (Below w.heap.size w w'))
  case atStart => exact ⟨(1), (1), (0), (by first | rfl | (simp; done) | (simp [*]; done)), (by first | rfl | (simp; done) | (simp [*]; done)), (by first | rfl | (simp; done) | (simp [*]; done)), H', ⟨Nat.le_refl _⟩, ⟨by (with_reducible repeat (first | apply Kd.R_alloc | apply Kd.R_drewN | apply Kd.R_drew)); exact HO272.out⟩, ⟨by repeat (first | (with_reducible first | exact HB.out | apply below_alloc | apply pw_below_drewN | apply below_drew1) | exact HB.out)⟩⟩
  case round =>
   clear H'
   try clear c2
   try clear p2
   try clear c3
   try clear c3b0
   try clear c3b1
   try clear c4
   obtain ⟨x6_1, x7_1, x21_1, rfl, rfl, rfl, HA, HK1, HO_19, HB⟩ := hrel
   cases gk with
   | zero => exact absurd HA.out (by simp [rack_Count.l0])
   | succ k1 =>
    have H := HA.out
    clear HA
    simp only [rack_Count.l0] at H
    by_cases c9 : x21_1 < (t270.length : Int)
    ·
     rw [if_pos c9] at H
     have c9b0 : decide (x21_1 < (t270.length : Int)) = true := decide_eq_true c9
     clear c9
     by_cases c10 : 0 ≤ x21_1
     ·
      rw [if_pos c10] at H
      have c10b0 : decide (0 ≤ x21_1) = true := decide_eq_true c10
      clear c10
      by_cases c11 : x21_1 < (t270.length : Int)
      ·
       rw [if_pos c11] at H
       have c11b0 : decide (x21_1 < (t270.length : Int)) = true := decide_eq_true c11
       clear c11
       have H' := Aside0.mk H
       clear H
       have p273 : 0 ≤ (x21_1 : Int) := of_decide_eq_true (by first | (with_reducible assumption) | assumption)
       have q273 : x21_1 < (t270.length : Int) := of_decide_eq_true (by first | (with_reducible assumption) | assumption)
       obtain ⟨ad273, e273, hx273_0⟩ := Kd.at_int (Kd.R_reads' HO_19.out).2.2 x21_1 p273 q273
       cases e273
       replace p273 := eq_true p273
       replace q273 := eq_true q273
       go_wp2
       go_roundg k1
       case measure => have := HK1.out; omega
       case rel => exact ⟨(wrap64 (x6_1 * (wrap64 (x21_1 + 1)))), (wrap64 (x7_1 * (rd t270 x21_1))), (wrap64 (x21_1 + 1)), (by first | rfl | (simp; done) | (simp [*]; done)), (by first | rfl | (simp; done) | (simp [*]; done)), (by first | rfl | (simp; done) | (simp [*]; done)), H', ⟨by have := HK1.out; omega⟩, ⟨by (with_reducible repeat (first | apply Kd.R_alloc | apply Kd.R_drewN | apply Kd.R_drew)); exact HO_19.out⟩, ⟨by repeat (first | (with_reducible first | exact HB.out | apply below_alloc | apply pw_below_drewN | apply below_drew1) | exact HB.out)⟩⟩
      ·
       rw [if_neg c11] at H
       exact absurd H (by simp)
     ·
      rw [if_neg c10] at H
      exact absurd H (by simp)
    ·
     rw [if_neg c9] at H
     have c9b0 : decide (x21_1 < (t270.length : Int)) = false := decide_eq_false c9
     clear c9
     by_cases c12 : x7_1 = 0
     ·
      rw [if_pos c12] at H
      exact absurd H (by simp)
     ·
      rw [if_neg c12] at H
      have c12b0 : (x7_1 == 0) = false := beq_eq_false_iff_ne.mpr c12
      have c12b1 : (x7_1 != 0) = true := bne_iff_ne.mpr c12
      simp only [Option.some.injEq, Prod.mk.injEq] at H
      obtain ⟨rfl, rfl⟩ := H
      go_wp2
      go_ret2
      exact ⟨by first | rfl | (simp [errW_none, errW_some] <;> rfl) | (simp [*, errW_none, errW_some] <;> rfl), by repeat (first | (with_reducible first | exact HB.out | apply below_alloc | apply pw_below_drewN | apply below_drew1) | exact HB.out)⟩
 ·
  rw [if_neg c3] at H
  have c3b0 : (t267 == 0) = false := beq_eq_false_iff_ne.mpr c3
  have c3b1 : (t267 != 0) = true := bne_iff_ne.mpr c3
  simp only [Option.some.injEq, Prod.mk.injEq] at H
  obtain ⟨rfl, rfl⟩ := H
  go_enter Try.func28, Try.ntmps28
  go_wp2_with (first | ((with_reducible refine gate_callee (f := 26) rfl ?_); refine goesL_ (some 12) rfl rfl Try.func26 (by kernel_rfl) rfl #[.slice A0 l0.length c0] rfl (by (try simp only [List.map_toArray, List.map_cons, List.map_nil]); first | done | rfl | (simp only [List.length_drop, List.length_take]; rfl)) ?_; (with_reducible refine (rack_Hooks.calls _ _ l0 t266 t267 _ ?side1 ?side2 A2.out).mono ?_); (case side1 => repeat (first | exact HR0.out | (with_reducible refine Kd.C_alloc ?_ _) | (with_reducible refine Kd.C_drewN ?_ _) | (with_reducible refine Kd.C_drew ?_))); (case side2 => exact HC0.out); rintro e w13 ⟨v268, rfl, ho0, hb⟩; refine ⟨_, rfl, ?_⟩; have n0_ := Aside0.mk (Kd.S_lower ho0 (below_size (by repeat (first | (with_reducible first | exact HB.out | apply below_alloc | apply pw_below_drewN | apply below_drew1) | exact HB.out)))); have n1_ := Aside0.mk (below_step (by repeat (first | (with_reducible first | exact HB.out | apply below_alloc | apply pw_below_drewN | apply below_drew1) | exact HB.out)) hb); clear HB; have HO269 := n0_; have HB := n1_; clear n0_ n1_; (try clear hb); (try clear hb2); (try clear hk); (try clear hi); (try clear ho0)))
  go_ret2
  exact ⟨by first | rfl | (simp [errW_none, errW_some] <;> rfl) | (simp [*, errW_none, errW_some] <;> rfl), by repeat (first | (with_reducible first | exact HB.out | apply below_alloc | apply pw_below_drewN | apply below_drew1) | exact HB.out)⟩

end Go.Proofs.Ytpbemjdaanlaoaa.Pr
set_option linter.unusedVariables false
set_option linter.unusedSimpArgs false
namespace Go.Proofs.Ytpbemjdaanlaoaa.Pr
open Go.RowKit Go.Proofs.YtpbemjdaanlaoaaW.PrintWords Go.Proofs.YtpbemjdaanlaoaaW.PrintLast Go.Proofs.YtpbemjdaanlaoaaW.PrintMore
set_option maxRecDepth 100000

/-! The chapter's example: what each call of it comes to. -/
abbrev CI (w : World) (A : Option Addr) (n : Nat) (l : List Int) : Prop := Kd.C (Kd.int .i64) w A n l
abbrev CR (w : World) (A : Option Addr) (n : Nat) (l : List (List Int)) : Prop := Kd.C (Kd.slice 3 (Kd.int .i64)) w A n l
theorem CI_lit (w : World) (xs : List Int) (hm : xs.length ≤ 1000) : CI (w.alloc (.cells (xs.map (Value.int .i64)).toArray 3)) (some ⟨w.heap.size, 0, none⟩) xs.length xs := (Kd.R_reads' (R_lits w 3 xs (by omega))).2.2
theorem CR_lit2 (w : World) (A1 A2 : Option Addr) (n1 n2 c1 c2 : Nat) (l1 l2 : List Int) (h1 : CI w A1 n1 l1) (h2 : CI w A2 n2 l2) (g1 : n1 ≤ c1) (g2 : n2 ≤ c2) : CR (w.alloc (.cells #[.slice A1 n1 c1, .slice A2 n2 c2] 32)) (some ⟨w.heap.size, 0, none⟩) 2 [l1, l2] := by
  refine C_of_headers (cs := [.slice A1 n1 c1, .slice A2 n2 c2]) (heap_alloc_at rfl) (by simp) rfl (fun j hj => ?_)
  obtain rfl := h1.1
  obtain rfl := h2.1
  have : j = 0 ∨ j = 1 := by simp at hj; omega
  rcases this with rfl | rfl
  · exact ⟨A1, c1, by simp, by simpa using g1, Kd.C_alloc h1 _⟩
  · exact ⟨A2, c2, by simp, by simpa using g2, Kd.C_alloc h2 _⟩
theorem CR_lit3 (w : World) (A1 A2 A3 : Option Addr) (n1 n2 n3 c1 c2 c3 : Nat) (l1 l2 l3 : List Int) (h1 : CI w A1 n1 l1) (h2 : CI w A2 n2 l2) (h3 : CI w A3 n3 l3) (g1 : n1 ≤ c1) (g2 : n2 ≤ c2) (g3 : n3 ≤ c3) : CR (w.alloc (.cells #[.slice A1 n1 c1, .slice A2 n2 c2, .slice A3 n3 c3] 32)) (some ⟨w.heap.size, 0, none⟩) 3 [l1, l2, l3] := by
  refine C_of_headers (cs := [.slice A1 n1 c1, .slice A2 n2 c2, .slice A3 n3 c3]) (heap_alloc_at rfl) (by simp) rfl (fun j hj => ?_)
  obtain rfl := h1.1
  obtain rfl := h2.1
  obtain rfl := h3.1
  have : j = 0 ∨ j = 1 ∨ j = 2 := by simp at hj; omega
  rcases this with rfl | rfl | rfl
  · exact ⟨A1, c1, by simp, by simpa using g1, Kd.C_alloc h1 _⟩
  · exact ⟨A2, c2, by simp, by simpa using g2, Kd.C_alloc h2 _⟩
  · exact ⟨A3, c3, by simp, by simpa using g3, Kd.C_alloc h3 _⟩
theorem of34 (A : Option Addr) (n c : Nat) (w : World) : Calls Try.prog 34 #[.slice A n c] w fun e w' => e = .returned (.slice A n c) ∧ w = w' := by
  go_enter Try.func34, Try.ntmps34
  go_wp2
  go_ret
  exact ⟨rfl, rfl⟩
theorem rows33 (A : Option Addr) (n c : Nat) (w : World) : Calls Try.prog 33 #[.slice A n c] w fun e w' => e = .returned (.slice A n c) ∧ w = w' := by
  go_enter Try.func33, Try.ntmps33
  go_wp2
  go_ret
  exact ⟨rfl, rfl⟩
theorem drawn_below {w w' : World} (h : Drawn0 w w') : Below w.heap.size w w' := by obtain ⟨n, rfl⟩ := h.out; exact pw_below_drewN (Below.refl _ _) n
/-- A slice of ints, or of rows, as result. -/
def retI (n : Nat) (l : List Int) (w w' : World) (e : Ending) (f : Value → Value) : Prop := ∃ A c, e = .returned (f (.slice A n c)) ∧ n ≤ c ∧ CI w' A n l ∧ Below w.heap.size w w'
def retR (n : Nat) (l : List (List Int)) (w w' : World) (e : Ending) (f : Value → Value) : Prop := ∃ A c, e = .returned (f (.slice A n c)) ∧ n ≤ c ∧ CR w' A n l ∧ Below w.heap.size w w'
theorem toI {w w' : World} {base : Nat} {ok : Nat → Prop} {v : Value} {l : List Int} {n : Nat} (hn : n = l.length) (h : Kd.R (Kd.int .i64) 3 w' base ok v l) : ∃ A c, v = .slice A n c ∧ n ≤ c ∧ CI w' A n l := by
  obtain ⟨A, c, e, h1, h2⟩ := Kd.R_reads h
  subst hn
  exact ⟨A, c, e, h1, h2⟩
theorem toR {w w' : World} {base : Nat} {ok : Nat → Prop} {v : Value} {l : List (List Int)} {n : Nat} (hn : n = l.length) (h : Kd.S (Kd.slice 3 (Kd.int .i64)) 32 w' base ok v l) : ∃ A c, v = .slice A n c ∧ n ≤ c ∧ CR w' A n l := by
  obtain ⟨A, c, e, h1, h2⟩ := Kd.S_reads h
  subst hn
  exact ⟨A, c, e, h1, h2⟩
theorem ex30 (w : World) : Calls Try.prog 30 #[] w fun e w' => retI 4 [3, 1, 2, 1] w w' e id :=
  (fipplelaw08_sequence.calls [3, 1, 2, 1] w rfl).mono fun e w' ⟨v, h1, h2, h3⟩ => by
    obtain ⟨A, c, rfl, h4, h5⟩ := toI (w := w) (n := 4) rfl h2
    exact ⟨A, c, h1, h4, h5, h3⟩
theorem ex31 (w : World) : Calls Try.prog 31 #[] w fun e w' => retR 3 [[1, 1], [2], [3]] w w' e id :=
  (fipplelaw08_stand.calls [[1, 1], [2], [3]] w rfl).mono fun e w' ⟨v, h1, h2, h3⟩ => by
    have h9 := h2
    obtain ⟨A, c, rfl, h4, _⟩ := h2
    exact ⟨A, c, h1, h4, (Kd.V_reads' h9).2.2, h3⟩
theorem ex32 (w : World) : Calls Try.prog 32 #[] w fun e w' => retR 3 [[1, 3], [2], [4]] w w' e id :=
  (fipplelaw08_order.calls [[1, 3], [2], [4]] w rfl).mono fun e w' ⟨v, h1, h2, h3⟩ => by
    have h9 := h2
    obtain ⟨A, c, rfl, h4, _⟩ := h2
    exact ⟨A, c, h1, h4, (Kd.V_reads' h9).2.2, h3⟩
theorem exBuild (A : Option Addr) (c : Nat) (w : World) (h : CI w A 4 [3, 1, 2, 1]) (hc : 4 ≤ c) : Calls Try.prog 19 #[.slice A 4 c] w fun e w' => ∃ A1 c1 A2 c2, e = .returned (.tuple #[.slice A1 3 c1, .slice A2 3 c2, .int .i64 0]) ∧ (3 ≤ c1 ∧ CR w' A1 3 [[1, 1], [2], [3]]) ∧ (3 ≤ c2 ∧ CR w' A2 3 [[1, 3], [2], [4]]) ∧ Below w.heap.size w w' :=
  (rack_Build.calls A c [3, 1, 2, 1] [[1, 1], [2], [3]] [[1, 3], [2], [4]] 0 w h hc rfl).mono fun e w' ⟨v0, v1, h1, h2, h3, h4⟩ => by
    obtain ⟨A1, c1, rfl, h5⟩ := toR (w := w) (n := 3) rfl h2
    obtain ⟨A2, c2, rfl, h6⟩ := toR (w := w) (n := 3) rfl h3
    exact ⟨A1, c1, A2, c2, h1, h5, h6, h4⟩
theorem orC_eq (rows : List (List Int)) : orC rows = if 12 < rows.flatten.length then 6 else if within_ 1 (rows.flatten.length : Int) rows.flatten = false then 3 else if ¬ rows.flatten.Nodup then 11 else if risesB rows 1 = false then 22 else 0 := by
  unfold orC
  simp only [kinds_iff]
theorem orC_ex : orC [[1, 3], [2], [4]] = 0 := by rw [orC_eq]; decide
theorem orC_ex2 : orC [[1, 2, 3], [4]] = 0 := by rw [orC_eq]; decide
theorem orC_ex3 : orC [[1, 3], [3]] = 11 := by rw [orC_eq]; decide
theorem read_ex1 : rack_Read.f [[1, 1], [2], [3]] [[1, 3], [2], [4]] = some ([3, 1, 2, 1], 0) := by
  unfold rack_Read.f readR
  rw [if_pos (by decide), if_neg (by decide), orC_ex, if_neg (by decide)]
  rfl
theorem read_ex2 : rack_Read.f [[1, 1], [2], [3]] [[1, 2, 3], [4]] = some ([], 15) := by
  unfold rack_Read.f readR
  rw [if_pos (by decide), if_neg (by decide), orC_ex2, if_neg (by decide)]
  rfl
theorem exRead1 (A0 : Option Addr) (c0 : Nat) (A1 : Option Addr) (c1 : Nat) (w : World) (h0 : CR w A0 3 [[1, 1], [2], [3]]) (hc0 : 3 ≤ c0) (h1 : CR w A1 3 [[1, 3], [2], [4]]) (hc1 : 3 ≤ c1) : Calls Try.prog 21 #[.slice A0 3 c0, .slice A1 3 c1] w fun e w' => retI 4 [3, 1, 2, 1] w w' e (fun v => .tuple #[v, .int .i64 0]) :=
  (rack_Read.calls A0 c0 [[1, 1], [2], [3]] A1 c1 [[1, 3], [2], [4]] [3, 1, 2, 1] 0 w h0 hc0 h1 hc1 read_ex1).mono fun e w' ⟨v, h1, h2, h3⟩ => by
    obtain ⟨A, c, rfl, h4, h5⟩ := toI (w := w) (n := 4) rfl h2
    exact ⟨A, c, h1, h4, h5, h3⟩
theorem exRead2 (A0 : Option Addr) (c0 : Nat) (A1 : Option Addr) (c1 : Nat) (w : World) (h0 : CR w A0 3 [[1, 1], [2], [3]]) (hc0 : 3 ≤ c0) (h1 : CR w A1 2 [[1, 2, 3], [4]]) (hc1 : 2 ≤ c1) : Calls Try.prog 21 #[.slice A0 3 c0, .slice A1 2 c1] w fun e w' => ∃ A c, e = .returned (.tuple #[.slice A 0 c, .int .i64 15]) ∧ Below w.heap.size w w' :=
  (rack_Read.calls A0 c0 [[1, 1], [2], [3]] A1 c1 [[1, 2, 3], [4]] [] 15 w h0 hc0 h1 hc1 read_ex2).mono fun e w' ⟨v, h1, h2, h3⟩ => by
    obtain ⟨A, c, rfl, _⟩ := toI (w := w) (n := 0) rfl h2
    exact ⟨A, c, h1, h3⟩
theorem exPut1 (A0 : Option Addr) (c0 : Nat) (w : World) (h0 : CR w A0 3 [[1, 1], [2], [3]]) (hc0 : 3 ≤ c0) : Calls Try.prog 15 #[.slice A0 3 c0, .int .i64 2] w fun e w' => retR 3 [[1, 1, 2], [2], [3]] w w' e (fun v => .tuple #[v, .int .i64 0, .int .i64 0]) :=
  (rack_Put.calls A0 c0 [[1, 1], [2], [3]] 2 [[1, 1, 2], [2], [3]] 0 0 w h0 hc0 rfl).mono fun e w' ⟨v, h1, h2, h3⟩ => by
    obtain ⟨A, c, rfl, h4, h5⟩ := toR (w := w) (n := 3) rfl h2
    exact ⟨A, c, h1, h4, h5, h3⟩
theorem exPut2 (A0 : Option Addr) (c0 : Nat) (w : World) (h0 : CR w A0 3 [[1, 1], [2], [3]]) (hc0 : 3 ≤ c0) : Calls Try.prog 15 #[.slice A0 3 c0, .int .i64 100] w fun e w' => ∃ A c, e = .returned (.tuple #[.slice A 0 c, .int .i64 0, .int .i64 3]) ∧ Below w.heap.size w w' :=
  (rack_Put.calls A0 c0 [[1, 1], [2], [3]] 100 [] 0 3 w h0 hc0 rfl).mono fun e w' ⟨v, h1, h2, h3⟩ => by
    obtain ⟨A, c, rfl, _⟩ := toR (w := w) (n := 0) rfl h2
    exact ⟨A, c, h1, h3⟩
theorem exTake1 (A0 : Option Addr) (c0 : Nat) (w : World) (h0 : CR w A0 3 [[1, 1], [2], [3]]) (hc0 : 3 ≤ c0) : Calls Try.prog 17 #[.slice A0 3 c0, .int .i64 2] w fun e w' => retR 2 [[1, 2], [3]] w w' e (fun v => .tuple #[v, .int .i64 1, .int .i64 0]) :=
  (rack_Take.calls A0 c0 [[1, 1], [2], [3]] 2 [[1, 2], [3]] 1 0 w h0 hc0 rfl).mono fun e w' ⟨v, h1, h2, h3⟩ => by
    obtain ⟨A, c, rfl, h4, h5⟩ := toR (w := w) (n := 2) rfl h2
    exact ⟨A, c, h1, h4, h5, h3⟩
theorem exTake2 (A0 : Option Addr) (c0 : Nat) (w : World) (h0 : CR w A0 3 [[1, 1], [2], [3]]) (hc0 : 3 ≤ c0) : Calls Try.prog 17 #[.slice A0 3 c0, .int .i64 1] w fun e w' => ∃ A c, e = .returned (.tuple #[.slice A 0 c, .int .i64 0, .int .i64 22]) ∧ Below w.heap.size w w' :=
  (rack_Take.calls A0 c0 [[1, 1], [2], [3]] 1 [] 0 22 w h0 hc0 rfl).mono fun e w' ⟨v, h1, h2, h3⟩ => by
    obtain ⟨A, c, rfl, _⟩ := toR (w := w) (n := 0) rfl h2
    exact ⟨A, c, h1, h3⟩
theorem exCheckRack (A0 : Option Addr) (c0 : Nat) (w : World) (h0 : CR w A0 2 [[1, 1], [1]]) (hc0 : 2 ≤ c0) : Calls Try.prog 10 #[.slice A0 2 c0] w fun e w' => e = .returned (.int .i64 22) ∧ Below w.heap.size w w' :=
  rack_CheckRack.calls A0 c0 [[1, 1], [1]] 22 w h0 hc0 rfl
theorem exCheckOrder (A0 : Option Addr) (c0 : Nat) (w : World) (h0 : CR w A0 2 [[1, 3], [3]]) (hc0 : 2 ≤ c0) : Calls Try.prog 12 #[.slice A0 2 c0] w fun e w' => e = .returned (.int .i64 11) ∧ Below w.heap.size w w' :=
  rack_CheckOrder.calls A0 c0 [[1, 3], [3]] 11 w h0 hc0 (by unfold rack_CheckOrder.f; rw [orC_ex3]; rfl)
theorem exCheckRising1 (A0 : Option Addr) (c0 : Nat) (A1 : Option Addr) (c1 : Nat) (w : World) (h0 : CI w A0 4 [3, 1, 2, 1]) (hc0 : 4 ≤ c0) (h1 : CI w A1 2 [1, 3]) (hc1 : 2 ≤ c1) : Calls Try.prog 35 #[.slice A0 4 c0, .slice A1 2 c1] w fun e w' => e = .returned (.tuple #[.int .i64 2, .int .i64 0]) ∧ Below w.heap.size w w' :=
  (rack_CheckRising.calls 10 A0 c0 [3, 1, 2, 1] A1 c1 [1, 3] 2 0 w h0 hc0 h1 hc1 (by decide +kernel)).mono fun e w' ⟨h1, h2⟩ => ⟨h1, by first | exact h2 | exact drawn_below h2⟩
theorem exCheckRising2 (A0 : Option Addr) (c0 : Nat) (A1 : Option Addr) (c1 : Nat) (w : World) (h0 : CI w A0 4 [3, 1, 2, 1]) (hc0 : 4 ≤ c0) (h1 : CI w A1 2 [0, 1]) (hc1 : 2 ≤ c1) : Calls Try.prog 35 #[.slice A0 4 c0, .slice A1 2 c1] w fun e w' => e = .returned (.tuple #[.int .i64 0, .int .i64 22]) ∧ Below w.heap.size w w' :=
  (rack_CheckRising.calls 10 A0 c0 [3, 1, 2, 1] A1 c1 [0, 1] 0 22 w h0 hc0 h1 hc1 (by decide +kernel)).mono fun e w' ⟨h1, h2⟩ => ⟨h1, by first | exact h2 | exact drawn_below h2⟩
theorem srt_ex1 : ([0, 2, 3, 1] : List Int).mergeSort (fun x y => decide (x ≤ y)) = [0, 1, 2, 3] := by
  have hp : (([0, 2, 3, 1] : List Int).mergeSort fun x y => decide (x ≤ y)).Perm [0, 2, 3, 1] := List.mergeSort_perm _ _
  have hs : (([0, 2, 3, 1] : List Int).mergeSort fun x y => decide (x ≤ y)).Pairwise (fun a b => decide (a ≤ b) = true) := List.pairwise_mergeSort (le := fun x y : Int => decide (x ≤ y)) (fun a b c h1 h2 => by simp at *; omega) (fun a b => by simp; omega) _
  exact (hp.trans (by decide : [0, 2, 3, 1].Perm ([0, 1, 2, 3] : List Int))).eq_of_pairwise (le := fun a b : Int => decide (a ≤ b) = true) (fun a b _ _ h1 h2 => by simp at *; omega) hs (by decide)
theorem srt_ex2 : ([0, 1, 2] : List Int).mergeSort (fun x y => decide (x ≤ y)) = [0, 1, 2] := by
  have hp : (([0, 1, 2] : List Int).mergeSort fun x y => decide (x ≤ y)).Perm [0, 1, 2] := List.mergeSort_perm _ _
  have hs : (([0, 1, 2] : List Int).mergeSort fun x y => decide (x ≤ y)).Pairwise (fun a b => decide (a ≤ b) = true) := List.pairwise_mergeSort (le := fun x y : Int => decide (x ≤ y)) (fun a b c h1 h2 => by simp at *; omega) (fun a b => by simp; omega) _
  exact hp.eq_of_pairwise (le := fun a b : Int => decide (a ≤ b) = true) (fun a b _ _ h1 h2 => by simp at *; omega) hs (by decide)
theorem exCheckFalls1 (A0 : Option Addr) (c0 : Nat) (A1 : Option Addr) (c1 : Nat) (w : World) (h0 : CI w A0 4 [3, 1, 2, 1]) (hc0 : 4 ≤ c0) (h1 : CR w A1 2 [[0, 2, 3], [1]]) (hc1 : 2 ≤ c1) : Calls Try.prog 36 #[.slice A0 4 c0, .slice A1 2 c1] w fun e w' => e = .returned (.tuple #[.int .i64 2, .int .i64 0]) ∧ Below w.heap.size w w' :=
  checkFalls36_ok A0 c0 [3, 1, 2, 1] A1 c1 [[0, 2, 3], [1]] w h0 hc0 h1 hc1 ⟨by decide, by decide, by decide, 10, by rw [show ([[0, 2, 3], [1]] : List (List Int)).flatten = [0, 2, 3, 1] from rfl, srt_ex1]; decide +kernel⟩ (by decide) (by decide) (k2 := 10) (by decide +kernel)
theorem exCheckFalls2 (A0 : Option Addr) (c0 : Nat) (A1 : Option Addr) (c1 : Nat) (w : World) (h0 : CI w A0 4 [3, 1, 2, 1]) (hc0 : 4 ≤ c0) (h1 : CR w A1 2 [[0, 1], [2]]) (hc1 : 2 ≤ c1) : Calls Try.prog 36 #[.slice A0 4 c0, .slice A1 2 c1] w fun e w' => e = .returned (.tuple #[.int .i64 0, .int .i64 15]) ∧ Below w.heap.size w w' :=
  checkFalls36_len A0 c0 [3, 1, 2, 1] A1 c1 [[0, 1], [2]] w h0 hc0 h1 hc1 ⟨by decide, by decide, by decide, 10, by rw [show ([[0, 1], [2]] : List (List Int)).flatten = [0, 1, 2] from rfl, srt_ex2]; decide +kernel⟩ (by decide)
theorem exRising (A0 : Option Addr) (c0 : Nat) (w : World) (h0 : CI w A0 4 [3, 1, 2, 1]) (hc0 : 4 ≤ c0) : Calls Try.prog 37 #[.slice A0 4 c0] w fun e w' => retI 2 [1, 2] w w' e (fun v => .tuple #[v, .int .i64 0]) :=
  (rising37 A0 c0 [3, 1, 2, 1] w h0 hc0 (by decide) ex_piles [[0, 1], [2, 3]] [-1, -1, 1, 1] (by rw [show ([3, 1, 2, 1] : List Int).length = 4 from rfl, ex_piles_at]) (by rw [show ([3, 1, 2, 1] : List Int).length = 4 from rfl, ex_piles_at]) 1 rfl (by decide) 2 rfl (by decide)).mono fun e w' ⟨v, h1, h2, h3⟩ => by
    obtain ⟨A, c, rfl, h4, h5⟩ := toI (w := w) (n := 2) (l := [1, 2]) rfl h2
    exact ⟨A, c, h1, h4, h5, h3⟩
theorem exFalls (A0 : Option Addr) (c0 : Nat) (w : World) (h0 : CI w A0 4 [3, 1, 2, 1]) (hc0 : 4 ≤ c0) : Calls Try.prog 38 #[.slice A0 4 c0] w fun e w' => retR 2 [[0, 1], [2, 3]] w w' e (fun v => .tuple #[v, .int .i64 0]) :=
  (falls38 A0 c0 [3, 1, 2, 1] w h0 hc0 (by decide) ex_piles [[0, 1], [2, 3]] (by rw [show ([3, 1, 2, 1] : List Int).length = 4 from rfl, ex_piles_at]) (by decide)).mono fun e w' ⟨A, c, h1, h2, h3, h4⟩ => ⟨A, c, h1, h2, h3, h4⟩
theorem exHooks (A0 : Option Addr) (c0 : Nat) (w : World) (h0 : CI w A0 2 [3, 1]) (hc0 : 2 ≤ c0) : Calls Try.prog 26 #[.slice A0 2 c0] w fun e w' => retR 2 [[4, 2, 1], [1]] w w' e (fun v => .tuple #[v, .int .i64 0]) :=
  (rack_Hooks.calls A0 c0 [3, 1] [[4, 2, 1], [1]] 0 w h0 hc0 rfl).mono fun e w' ⟨v, h1, h2, h3⟩ => by
    obtain ⟨A, c, rfl, h4, h5⟩ := toR (w := w) (n := 2) rfl h2
    exact ⟨A, c, h1, h4, h5, h3⟩
theorem exCount1 (A0 : Option Addr) (c0 : Nat) (w : World) (h0 : CI w A0 2 [3, 1]) (hc0 : 2 ≤ c0) : Calls Try.prog 28 #[.slice A0 2 c0] w fun e w' => e = .returned (.tuple #[.int .i64 3, .int .i64 0]) ∧ Below w.heap.size w w' :=
  (rack_Count.calls 10 A0 c0 [3, 1] 3 0 w h0 hc0 (by decide +kernel)).mono fun e w' ⟨h1, h2⟩ => ⟨h1, by first | exact h2 | exact drawn_below h2⟩
theorem exCount2 (A0 : Option Addr) (c0 : Nat) (w : World) (h0 : CI w A0 2 [1, 2]) (hc0 : 2 ≤ c0) : Calls Try.prog 28 #[.slice A0 2 c0] w fun e w' => e = .returned (.tuple #[.int .i64 0, .int .i64 22]) ∧ Below w.heap.size w w' :=
  (rack_Count.calls 10 A0 c0 [1, 2] 0 22 w h0 hc0 (by decide +kernel)).mono fun e w' ⟨h1, h2⟩ => ⟨h1, by first | exact h2 | exact drawn_below h2⟩
theorem exRefRising (A0 : Option Addr) (c0 : Nat) (A1 : Option Addr) (c1 : Nat) (w : World) (h0 : CI w A0 4 [3, 1, 2, 1]) (hc0 : 4 ≤ c0) (h1 : CI w A1 2 [1, 2]) (hc1 : 2 ≤ c1) : Calls Try.prog 39 #[.slice A0 4 c0, .slice A1 2 c1] w fun e w' => e = .returned (.tuple #[.int .i64 2, .int .i64 0]) ∧ Below w.heap.size w w' :=
  (fippleref08_CheckRising.calls 10 A0 c0 [3, 1, 2, 1] A1 c1 [1, 2] 2 0 w h0 hc0 h1 hc1 (by decide +kernel)).mono fun e w' ⟨h1, h2⟩ => ⟨h1, by first | exact h2 | exact drawn_below h2⟩
theorem exRefFalls (A0 : Option Addr) (c0 : Nat) (A1 : Option Addr) (c1 : Nat) (w : World) (h0 : CI w A0 4 [3, 1, 2, 1]) (hc0 : 4 ≤ c0) (h1 : CR w A1 2 [[0, 1], [2, 3]]) (hc1 : 2 ≤ c1) : Calls Try.prog 40 #[.slice A0 4 c0, .slice A1 2 c1] w fun e w' => e = .returned (.tuple #[.int .i64 2, .int .i64 0]) ∧ Below w.heap.size w w' :=
  (fippleref08_CheckFalls.calls 20 A0 c0 [3, 1, 2, 1] A1 c1 [[0, 1], [2, 3]] 2 0 w h0 hc0 h1 hc1 (by decide +kernel)).mono fun e w' ⟨h1, h2⟩ => ⟨h1, by first | exact h2 | exact drawn_below h2⟩
theorem exSame3 (A0 : Option Addr) (c0 : Nat) (A1 : Option Addr) (c1 : Nat) (n : Nat) (l : List (List Int)) (w : World) (hl : fipplelaw08_Same.f 20 l l = some true) (hn : n = l.length) (h0 : CR w A0 n l) (hc0 : n ≤ c0) (h1 : CR w A1 n l) (hc1 : n ≤ c1) : Calls Try.prog 14 #[.slice A0 n c0, .slice A1 n c1] w fun e w' => e = .returned (.bool true) ∧ Below w.heap.size w w' := by
  subst hn
  exact (fipplelaw08_Same.calls 20 A0 c0 l A1 c1 l true w h0 hc0 h1 hc1 hl).mono fun e w' ⟨h1, h2⟩ => ⟨h1, by first | exact h2 | exact drawn_below h2⟩
theorem exInts4 (A0 : Option Addr) (c0 : Nat) (A1 : Option Addr) (c1 : Nat) (w : World) (h0 : CI w A0 4 [3, 1, 2, 1]) (hc0 : 4 ≤ c0) (h1 : CI w A1 4 [3, 1, 2, 1]) (hc1 : 4 ≤ c1) : Calls Try.prog 25 #[.slice A0 4 c0, .slice A1 4 c1] w fun e w' => e = .returned (.bool true) ∧ Below w.heap.size w w' :=
  (fipplelaw08_Ints.calls 20 A0 c0 [3, 1, 2, 1] A1 c1 [3, 1, 2, 1] true w h0 hc0 h1 hc1 (by decide +kernel)).mono fun e w' ⟨h1, h2⟩ => ⟨h1, by first | exact h2 | exact drawn_below h2⟩
end Go.Proofs.Ytpbemjdaanlaoaa.Pr
