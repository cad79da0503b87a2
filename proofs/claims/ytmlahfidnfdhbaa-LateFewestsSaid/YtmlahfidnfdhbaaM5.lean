/- Works, the opening of arguments, and what the references reckon. -/
import Derived.Test.YtmlahfidnfdhbaaRA
import Derived.Test.YtmlahfidnfdhbaaRB
import Derived.Test.YtmlahfidnfdhbaaRC
import Derived.Test.YtmlahfidnfdhbaaRD
import Derived.Test.YtmlahfidnfdhbaaM4
import Derived.Deep.Slices
import Derived.ChangeSame
import Derived.Test.YtmlahfidnfdhbaaPr0
set_option linter.unusedVariables false
set_option linter.unusedSimpArgs false
namespace Go.Proofs.Ytmlahfidnfdhbaa.Pr
open Go.RowKit Go.Proofs.YtmlahfidnfdhbaaW.PrintWords Go.Proofs.YtmlahfidnfdhbaaW.PrintLast Go.Proofs.YtmlahfidnfdhbaaW.PrintMore

def exB : List S58 := [⟨⟨2, 3⟩, 4⟩, ⟨⟨1, 2⟩, 3⟩, ⟨⟨4, 4⟩, 7⟩, ⟨⟨3, 5⟩, 8⟩]
theorem of39 (v : Value) (w : World) : Calls Try.prog 39 #[v] w fun e w' => e = .returned v ∧ w = w' := by
  go_enter Try.func39, Try.ntmps39
  go_wp2
  go_ret
  exact ⟨rfl, rfl⟩
theorem longs40 (v : Value) (w : World) : Calls Try.prog 40 #[v] w fun e w' => e = .returned v ∧ w = w' := by
  go_enter Try.func40, Try.ntmps40
  go_wp2
  go_ret
  exact ⟨rfl, rfl⟩
theorem ex38 (w : World) : Calls Try.prog 38 #[] w fun e w' => ∃ A c, e = .returned (.slice A 4 c) ∧ 4 ≤ c ∧ Kd.C k58 w' A 4 exB ∧ Below w.heap.size w w' := by
  refine (fipplelaw05_example.calls 100 exB w (by kernel_rfl)).mono ?_
  rintro e w' ⟨v, rfl, hR, hb⟩
  obtain ⟨A, c, rfl, h1, h2⟩ := Kd.R_reads hR
  exact ⟨A, c, rfl, h1, h2, hb⟩
theorem seqC (A : Option Addr) (c : Nat) (w : World) (hr : Kd.C k58 w A 4 exB) (hc : 4 ≤ c) : Calls Try.prog 19 #[.slice A 4 c] w fun e w' => ∃ A' c', e = .returned (.tuple #[.slice A' 4 c', .int .i64 0]) ∧ 4 ≤ c' ∧ Kd.C (Kd.int .i64) w' A' 4 [1, 0, 2, 3] ∧ Below w.heap.size w w' := by
  refine (late_Sequence.calls A c exB [1, 0, 2, 3] 0 w hr hc (by kernel_rfl)).mono ?_
  rintro e w' ⟨v, rfl, hR, hb⟩
  obtain ⟨A', c', rfl, h1, h2⟩ := Kd.R_reads hR
  exact ⟨A', c', rfl, h1, h2, hb⟩
theorem short0C (A : Option Addr) (c : Nat) (w : World) (hr : Kd.C k58 w A 4 exB) (hc : 4 ≤ c) : Calls Try.prog 25 #[.slice A 4 c, .int .i64 0] w fun e w' => e = .returned (.tuple #[.int .i64 2, .int .i64 0]) ∧ Below w.heap.size w w' := late_Shortest.calls A c exB 0 2 0 w hr hc (by kernel_rfl)
theorem short1C (A : Option Addr) (c : Nat) (w : World) (hr : Kd.C k58 w A 4 exB) (hc : 4 ≤ c) : Calls Try.prog 25 #[.slice A 4 c, .int .i64 1] w fun e w' => e = .returned (.tuple #[.int .i64 6, .int .i64 0]) ∧ Below w.heap.size w w' := late_Shortest.calls A c exB 1 6 0 w hr hc (by kernel_rfl)
theorem day1C (A : Option Addr) (c : Nat) (w : World) (hr : Kd.C k58 w A 4 exB) (hc : 4 ≤ c) : Calls Try.prog 27 #[.slice A 4 c, .int .i64 1] w fun e w' => e = .returned (.tuple #[.int .i64 8, .int .i64 0]) ∧ Below w.heap.size w w' := late_Day.calls A c exB 1 8 0 w hr hc (by kernel_rfl)
theorem bound7C (A : Option Addr) (c : Nat) (w : World) (hr : Kd.C k58 w A 4 exB) (hc : 4 ≤ c) : Calls Try.prog 23 #[.slice A 4 c, .int .i64 0, .int .i64 7] w fun e w' => e = .returned (.tuple #[.int .i64 0, .int .i64 0]) ∧ Below w.heap.size w w' := late_Bound.calls A c exB 0 7 0 0 w hr hc (by kernel_rfl)
theorem bound2C (A : Option Addr) (c : Nat) (w : World) (hr : Kd.C k58 w A 4 exB) (hc : 4 ≤ c) : Calls Try.prog 23 #[.slice A 4 c, .int .i64 0, .int .i64 2] w fun e w' => e = .returned (.tuple #[.int .i64 0, .int .i64 5]) ∧ Below w.heap.size w w' := late_Bound.calls A c exB 0 2 0 5 w hr hc (by kernel_rfl)
theorem kept0C (A : Option Addr) (c : Nat) (w : World) (hr : Kd.C k58 w A 4 exB) (hc : 4 ≤ c) : Calls Try.prog 29 #[.slice A 4 c, .int .i64 0] w fun e w' => ∃ A' c', e = .returned (.tuple #[.slice A' 3 c', .int .i64 0]) ∧ 3 ≤ c' ∧ Kd.C (Kd.int .i64) w' A' 3 [0, 1, 3] ∧ Below w.heap.size w w' := by
  refine (late_Kept.calls A c exB 0 [0, 1, 3] 0 w hr hc (by kernel_rfl)).mono ?_
  rintro e w' ⟨v, rfl, hR, hb⟩
  obtain ⟨A', c', rfl, h1, h2⟩ := Kd.R_reads hR
  exact ⟨A', c', rfl, h1, h2, hb⟩
theorem kept1C (A : Option Addr) (c : Nat) (w : World) (hr : Kd.C k58 w A 4 exB) (hc : 4 ≤ c) : Calls Try.prog 29 #[.slice A 4 c, .int .i64 1] w fun e w' => ∃ A' c', e = .returned (.tuple #[.slice A' 2 c', .int .i64 0]) ∧ 2 ≤ c' ∧ Kd.C (Kd.int .i64) w' A' 2 [1, 2] ∧ Below w.heap.size w w' := by
  refine (late_Kept.calls A c exB 1 [1, 2] 0 w hr hc (by kernel_rfl)).mono ?_
  rintro e w' ⟨v, rfl, hR, hb⟩
  obtain ⟨A', c', rfl, h1, h2⟩ := Kd.R_reads hR
  exact ⟨A', c', rfl, h1, h2, hb⟩
theorem fewC (A : Option Addr) (c : Nat) (w : World) (hr : Kd.C k58 w A 4 exB) (hc : 4 ≤ c) : Calls Try.prog 34 #[.slice A 4 c, .int .i64 1] w fun e w' => e = .returned (.tuple #[.int .i64 2, .int .i64 0]) ∧ Below w.heap.size w w' := late_Fewest.calls A c exB 1 2 0 w hr hc (by kernel_rfl)
theorem kindC (A : Option Addr) (c : Nat) (w : World) (hr : Kd.C k58 w A 4 exB) (hc : 4 ≤ c) : Calls Try.prog 36 #[.slice A 4 c, .int .i64 0, .int .i64 1] w fun e w' => e = .returned (.tuple #[.int .i64 2, .int .i64 0]) ∧ Below w.heap.size w w' := late_Kind.calls A c exB 0 1 2 0 w hr hc (by kernel_rfl)
theorem checkC (A : Option Addr) (c : Nat) (w : World) (hr : Kd.C k58 w A 4 exB) (hc : 4 ≤ c) (A1 : Option Addr) (c1 : Nat) (hr1 : Kd.C (Kd.int .i64) w A1 3 [0, 2, 3]) (hc1 : 3 ≤ c1) : Calls Try.prog 31 #[.slice A 4 c, .int .i64 0, .slice A1 3 c1] w fun e w' => e = .returned (.int .i64 12) ∧ Below w.heap.size w w' :=
  late_CheckKept.calls A c exB 0 A1 c1 [0, 2, 3] 12 w hr hc hr1 hc1 (by kernel_rfl)
theorem kindsC (A : Option Addr) (c : Nat) (w : World) (hr : Kd.C k58 w A 4 exB) (hc : 4 ≤ c) (A1 : Option Addr) (c1 : Nat) (hr1 : Kd.C (Kd.int .i64) w A1 4 [1, 0, 2, 3]) (hc1 : 4 ≤ c1) : Calls Try.prog 21 #[.slice A 4 c, .slice A1 4 c1] w fun e w' => ∃ A' c', e = .returned (.tuple #[.slice A' 4 c', .int .i64 0]) ∧ 4 ≤ c' ∧ Kd.C (Kd.int .i64) w' A' 4 [1, 2, 1, 0] ∧ Below w.heap.size w w' := by
  refine (late_Kinds.calls A c exB A1 c1 [1, 0, 2, 3] [1, 2, 1, 0] 0 w hr hc hr1 hc1 (by kernel_rfl)).mono ?_
  rintro e w' ⟨v, rfl, hR, hb⟩
  obtain ⟨A', c', rfl, h1, h2⟩ := Kd.R_reads hR
  exact ⟨A', c', rfl, h1, h2, hb⟩
theorem delayC (A : Option Addr) (c : Nat) (w : World) (hr : Kd.C k58 w A 4 exB) (hc : 4 ≤ c) (A1 : Option Addr) (c1 : Nat) (hr1 : Kd.C (Kd.int .i64) w A1 4 [0, 1, 2, 3]) (hc1 : 4 ≤ c1) (A2 : Option Addr) (c2 : Nat) (hr2 : Kd.C (Kd.int .i64) w A2 4 [3, 2, 4, 5]) (hc2 : 4 ≤ c2) :
    Calls Try.prog 12 #[.slice A 4 c, .slice A1 4 c1, .slice A2 4 c2] w fun e w' => e = .returned (.tuple #[.int .i64 6, .int .i64 0]) ∧ Below w.heap.size w w' :=
  late_Delay.calls A c exB A1 c1 [0, 1, 2, 3] A2 c2 [3, 2, 4, 5] 6 0 w hr hc hr1 hc1 hr2 hc2 (by kernel_rfl)
theorem ends1C (A : Option Addr) (c : Nat) (w : World) (hr : Kd.C k58 w A 4 exB) (hc : 4 ≤ c) (A1 : Option Addr) (c1 : Nat) (hr1 : Kd.C (Kd.int .i64) w A1 4 [1, 0, 2, 3]) (hc1 : 4 ≤ c1) (A2 : Option Addr) (c2 : Nat) (hr2 : Kd.C (Kd.int .i64) w A2 4 [3, 2, 4, 5]) (hc2 : 4 ≤ c2) :
    Calls Try.prog 10 #[.slice A 4 c, .slice A1 4 c1, .slice A2 4 c2] w fun e w' => ∃ A' c', e = .returned (.tuple #[.slice A' 4 c', .int .i64 0]) ∧ 4 ≤ c' ∧ Kd.C (Kd.int .i64) w' A' 4 [5, 2, 9, 14] ∧ Below w.heap.size w w' := by
  refine (late_Ends.calls 100 A c exB A1 c1 [1, 0, 2, 3] A2 c2 [3, 2, 4, 5] [5, 2, 9, 14] 0 w hr hc hr1 hc1 hr2 hc2 (by kernel_rfl)).mono ?_
  rintro e w' ⟨v, rfl, hR, hb⟩
  obtain ⟨A', c', rfl, h1, h2⟩ := Kd.R_reads hR
  exact ⟨A', c', rfl, h1, h2, hb⟩
theorem ends2C (A : Option Addr) (c : Nat) (w : World) (hr : Kd.C k58 w A 4 exB) (hc : 4 ≤ c) (A1 : Option Addr) (c1 : Nat) (hr1 : Kd.C (Kd.int .i64) w A1 4 [1, 0, 2, 3]) (hc1 : 4 ≤ c1) (A2 : Option Addr) (c2 : Nat) (hr2 : Kd.C (Kd.int .i64) w A2 4 [4, 1, 4, 3]) (hc2 : 4 ≤ c2) :
    Calls Try.prog 10 #[.slice A 4 c, .slice A1 4 c1, .slice A2 4 c2] w fun e w' => ∃ A' c', e = .returned (.tuple #[.slice A' 0 c', .int .i64 3]) ∧ Below w.heap.size w w' := by
  refine (late_Ends.calls 100 A c exB A1 c1 [1, 0, 2, 3] A2 c2 [4, 1, 4, 3] [] 3 w hr hc hr1 hc1 hr2 hc2 (by kernel_rfl)).mono ?_
  rintro e w' ⟨v, rfl, hR, hb⟩
  obtain ⟨A', c', rfl, h1, h2⟩ := Kd.R_reads hR
  exact ⟨A', c', rfl, hb⟩
theorem intsC (xs ys : List Int) (n m : Nat) (A : Option Addr) (c : Nat) (w : World) (h1 : Kd.C (Kd.int .i64) w A n xs) (hc : n ≤ c) (A' : Option Addr) (c' : Nat) (h2 : Kd.C (Kd.int .i64) w A' m ys) (hc' : m ≤ c') (h : fipplelaw05_Ints.f 100 xs ys = some true) :
    Calls Try.prog 18 #[.slice A n c, .slice A' m c'] w fun e w' => e = .returned (.bool true) ∧ Below w.heap.size w w' := by
  obtain rfl := h1.1
  obtain rfl := h2.1
  exact (fipplelaw05_Ints.calls 100 A c xs A' c' ys true w h1 hc h2 hc' h).mono fun e w' ⟨e1, hd⟩ => ⟨e1, below_d0 (Below.refl _ _) hd⟩
theorem longsC (xs ys : List Int) (n m : Nat) (A : Option Addr) (c : Nat) (w : World) (h1 : Kd.C (Kd.int .i64) w A n xs) (hc : n ≤ c) (A' : Option Addr) (c' : Nat) (h2 : Kd.C (Kd.int .i64) w A' m ys) (hc' : m ≤ c') (h : fipplelaw05_Longs.f 100 xs ys = some true) :
    Calls Try.prog 16 #[.slice A n c, .slice A' m c'] w fun e w' => e = .returned (.bool true) ∧ Below w.heap.size w w' := by
  obtain rfl := h1.1
  obtain rfl := h2.1
  exact (fipplelaw05_Longs.calls 100 A c xs A' c' ys true w h1 hc h2 hc' h).mono fun e w' ⟨e1, hd⟩ => ⟨e1, below_d0 (Below.refl _ _) hd⟩
end Go.Proofs.Ytmlahfidnfdhbaa.Pr
namespace Go.Proofs.Ytmlahfidnfdhbaa.Pr
open Go.RowKit Go.Proofs.YtmlahfidnfdhbaaW.PrintWords Go.Proofs.YtmlahfidnfdhbaaW.PrintLast Go.Proofs.YtmlahfidnfdhbaaW.PrintMore
set_option maxRecDepth 100000

def fipplelaw05_Works.f : Option Bool := some true
set_option maxHeartbeats 4000000 in
theorem worksTrue (w : World) : Calls Try.prog 9 #[] w fun e w' => e = .returned (.bool true) ∧ Below w.heap.size w w' := by
  go_enter Try.func9, Try.ntmps9
  go_wp2_with (go_at_call 38; refine (ex38 _).mono ?_; rintro e w1 ⟨A0, c0, rfl, h4, hC, hb⟩; have HC1 := Lib.hid hC; have HB1 := Lib.hid hb; have H4 := Lib.hid h4; clear hC hb h4)
  go_wp2_with (first
    | (go_at_call 19; have m := seqC A0 c0 w1 HC1.out H4.out ; (with_reducible refine m.mono ?_); clear m; rintro e w2 ⟨As, cs, rfl, hs, hC, hb⟩; have HC2 := Lib.hid (Kd.C_below HC1.out hb); have HB2 : Hid (Below w.heap.size w w2) := HB1.out.trans (hb.mono (by have := HB1.out.size; simp; omega)); have Fs_2 := Lib.hid hC; have Gs := Lib.hid hs; clear hC hs; clear hb))
  go_wp2_with (first
    | (go_at_call 40; refine (longs40 _ _).mono ?_; rintro e w' ⟨rfl, rfl⟩)
    | (go_at_call 39; refine (of39 _ _).mono ?_; rintro e w' ⟨rfl, rfl⟩)
    | (go_at_call 10; have m := ends1C A0 c0 ((w2.alloc (.cells #[.int .i64 1, .int .i64 0, .int .i64 2, .int .i64 3] 3)).alloc (.cells #[.int .i64 3, .int .i64 2, .int .i64 4, .int .i64 5] 2)) (Kd.C_alloc (Kd.C_alloc HC2.out _) _) H4.out (some ⟨w2.heap.size, 0, none⟩) 4 (Kd.C_alloc (C_lit w2 3 _ [1, 0, 2, 3] #[.int .i64 1, .int .i64 0, .int .i64 2, .int .i64 3] rfl rfl (by simp)) _) (by omega) (some ⟨w2.heap.size + 1, 0, none⟩) 4 (C_lit (w2.alloc (.cells #[.int .i64 1, .int .i64 0, .int .i64 2, .int .i64 3] 3)) 2 _ [3, 2, 4, 5] #[.int .i64 3, .int .i64 2, .int .i64 4, .int .i64 5] (by simp) rfl (by simp)) (by omega) ; (with_reducible refine m.mono ?_); clear m; rintro e w3 ⟨Aa, ca, rfl, ha, hC, hb⟩; have HC3 := Lib.hid (Kd.C_below (Kd.C_alloc (Kd.C_alloc HC2.out _) _) hb); have HB3 : Hid (Below w.heap.size w w3) := ((HB2.out.alloc (by have := HB2.out.size; simp; omega) _).alloc (by have := HB2.out.size; simp; omega) _).trans (hb.mono (by have := HB2.out.size; simp; omega)); have Fs_3 := Lib.hid (Kd.C_below (Kd.C_alloc (Kd.C_alloc Fs_2.out _) _) hb); have Fa_3 := Lib.hid hC; have Ga := Lib.hid ha; clear hC ha; clear hb))
  go_wp2_with (first
    | (go_at_call 40; refine (longs40 _ _).mono ?_; rintro e w' ⟨rfl, rfl⟩)
    | (go_at_call 39; refine (of39 _ _).mono ?_; rintro e w' ⟨rfl, rfl⟩)
    | (go_at_call 10; have m := ends2C A0 c0 ((w3.alloc (.cells #[.int .i64 1, .int .i64 0, .int .i64 2, .int .i64 3] 3)).alloc (.cells #[.int .i64 4, .int .i64 1, .int .i64 4, .int .i64 3] 2)) (Kd.C_alloc (Kd.C_alloc HC3.out _) _) H4.out (some ⟨w3.heap.size, 0, none⟩) 4 (Kd.C_alloc (C_lit w3 3 _ [1, 0, 2, 3] #[.int .i64 1, .int .i64 0, .int .i64 2, .int .i64 3] rfl rfl (by simp)) _) (by omega) (some ⟨w3.heap.size + 1, 0, none⟩) 4 (C_lit (w3.alloc (.cells #[.int .i64 1, .int .i64 0, .int .i64 2, .int .i64 3] 3)) 2 _ [4, 1, 4, 3] #[.int .i64 4, .int .i64 1, .int .i64 4, .int .i64 3] (by simp) rfl (by simp)) (by omega) ; (with_reducible refine m.mono ?_); clear m; rintro e w4 ⟨Az, cz, rfl, hb⟩; have HC4 := Lib.hid (Kd.C_below (Kd.C_alloc (Kd.C_alloc HC3.out _) _) hb); have HB4 : Hid (Below w.heap.size w w4) := ((HB3.out.alloc (by have := HB3.out.size; simp; omega) _).alloc (by have := HB3.out.size; simp; omega) _).trans (hb.mono (by have := HB3.out.size; simp; omega)); have Fs_4 := Lib.hid (Kd.C_below (Kd.C_alloc (Kd.C_alloc Fs_3.out _) _) hb); have Fa_4 := Lib.hid (Kd.C_below (Kd.C_alloc (Kd.C_alloc Fa_3.out _) _) hb); clear hb))
  go_wp2_with (first
    | (go_at_call 40; refine (longs40 _ _).mono ?_; rintro e w' ⟨rfl, rfl⟩)
    | (go_at_call 39; refine (of39 _ _).mono ?_; rintro e w' ⟨rfl, rfl⟩)
    | (go_at_call 12; have m := delayC A0 c0 ((w4.alloc (.cells #[.int .i64 0, .int .i64 1, .int .i64 2, .int .i64 3] 3)).alloc (.cells #[.int .i64 3, .int .i64 2, .int .i64 4, .int .i64 5] 2)) (Kd.C_alloc (Kd.C_alloc HC4.out _) _) H4.out (some ⟨w4.heap.size, 0, none⟩) 4 (Kd.C_alloc (C_lit w4 3 _ [0, 1, 2, 3] #[.int .i64 0, .int .i64 1, .int .i64 2, .int .i64 3] rfl rfl (by simp)) _) (by omega) (some ⟨w4.heap.size + 1, 0, none⟩) 4 (C_lit (w4.alloc (.cells #[.int .i64 0, .int .i64 1, .int .i64 2, .int .i64 3] 3)) 2 _ [3, 2, 4, 5] #[.int .i64 3, .int .i64 2, .int .i64 4, .int .i64 5] (by simp) rfl (by simp)) (by omega) ; (with_reducible refine m.mono ?_); clear m; rintro e w5 ⟨rfl, hb⟩; have HC5 := Lib.hid (Kd.C_below (Kd.C_alloc (Kd.C_alloc HC4.out _) _) hb); have HB5 : Hid (Below w.heap.size w w5) := ((HB4.out.alloc (by have := HB4.out.size; simp; omega) _).alloc (by have := HB4.out.size; simp; omega) _).trans (hb.mono (by have := HB4.out.size; simp; omega)); have Fs_5 := Lib.hid (Kd.C_below (Kd.C_alloc (Kd.C_alloc Fs_4.out _) _) hb); have Fa_5 := Lib.hid (Kd.C_below (Kd.C_alloc (Kd.C_alloc Fa_4.out _) _) hb); clear hb))
  go_wp2_with (first
    | (go_at_call 39; refine (of39 _ _).mono ?_; rintro e w' ⟨rfl, rfl⟩)
    | (go_at_call 21; have m := kindsC A0 c0 (w5.alloc (.cells #[.int .i64 1, .int .i64 0, .int .i64 2, .int .i64 3] 3)) (Kd.C_alloc HC5.out _) H4.out (some ⟨w5.heap.size, 0, none⟩) 4 (C_lit w5 3 _ [1, 0, 2, 3] #[.int .i64 1, .int .i64 0, .int .i64 2, .int .i64 3] rfl rfl (by simp)) (by omega) ; (with_reducible refine m.mono ?_); clear m; rintro e w6 ⟨Ak, ck, rfl, hk, hC, hb⟩; have HC6 := Lib.hid (Kd.C_below (Kd.C_alloc HC5.out _) hb); have HB6 : Hid (Below w.heap.size w w6) := (HB5.out.alloc (by have := HB5.out.size; simp; omega) _).trans (hb.mono (by have := HB5.out.size; simp; omega)); have Fs_6 := Lib.hid (Kd.C_below (Kd.C_alloc Fs_5.out _) hb); have Fa_6 := Lib.hid (Kd.C_below (Kd.C_alloc Fa_5.out _) hb); have Fk_6 := Lib.hid hC; have Gk := Lib.hid hk; clear hC hk; clear hb))
  go_wp2_with (first
    | (go_at_call 25; have m := short0C A0 c0 w6 HC6.out H4.out ; (with_reducible refine m.mono ?_); clear m; rintro e w7 ⟨rfl, hb⟩; have HC7 := Lib.hid (Kd.C_below HC6.out hb); have HB7 : Hid (Below w.heap.size w w7) := HB6.out.trans (hb.mono (by have := HB6.out.size; simp; omega)); have Fs_7 := Lib.hid (Kd.C_below Fs_6.out hb); have Fa_7 := Lib.hid (Kd.C_below Fa_6.out hb); have Fk_7 := Lib.hid (Kd.C_below Fk_6.out hb); clear hb))
  go_wp2_with (first
    | (go_at_call 25; have m := short1C A0 c0 w7 HC7.out H4.out ; (with_reducible refine m.mono ?_); clear m; rintro e w8 ⟨rfl, hb⟩; have HC8 := Lib.hid (Kd.C_below HC7.out hb); have HB8 : Hid (Below w.heap.size w w8) := HB7.out.trans (hb.mono (by have := HB7.out.size; simp; omega)); have Fs_8 := Lib.hid (Kd.C_below Fs_7.out hb); have Fa_8 := Lib.hid (Kd.C_below Fa_7.out hb); have Fk_8 := Lib.hid (Kd.C_below Fk_7.out hb); clear hb))
  go_wp2_with (first
    | (go_at_call 27; have m := day1C A0 c0 w8 HC8.out H4.out ; (with_reducible refine m.mono ?_); clear m; rintro e w9 ⟨rfl, hb⟩; have HC9 := Lib.hid (Kd.C_below HC8.out hb); have HB9 : Hid (Below w.heap.size w w9) := HB8.out.trans (hb.mono (by have := HB8.out.size; simp; omega)); have Fs_9 := Lib.hid (Kd.C_below Fs_8.out hb); have Fa_9 := Lib.hid (Kd.C_below Fa_8.out hb); have Fk_9 := Lib.hid (Kd.C_below Fk_8.out hb); clear hb))
  go_wp2_with (first
    | (go_at_call 23; have m := bound7C A0 c0 w9 HC9.out H4.out ; (with_reducible refine m.mono ?_); clear m; rintro e w10 ⟨rfl, hb⟩; have HC10 := Lib.hid (Kd.C_below HC9.out hb); have HB10 : Hid (Below w.heap.size w w10) := HB9.out.trans (hb.mono (by have := HB9.out.size; simp; omega)); have Fs_10 := Lib.hid (Kd.C_below Fs_9.out hb); have Fa_10 := Lib.hid (Kd.C_below Fa_9.out hb); have Fk_10 := Lib.hid (Kd.C_below Fk_9.out hb); clear hb))
  go_wp2_with (first
    | (go_at_call 23; have m := bound2C A0 c0 w10 HC10.out H4.out ; (with_reducible refine m.mono ?_); clear m; rintro e w11 ⟨rfl, hb⟩; have HC11 := Lib.hid (Kd.C_below HC10.out hb); have HB11 : Hid (Below w.heap.size w w11) := HB10.out.trans (hb.mono (by have := HB10.out.size; simp; omega)); have Fs_11 := Lib.hid (Kd.C_below Fs_10.out hb); have Fa_11 := Lib.hid (Kd.C_below Fa_10.out hb); have Fk_11 := Lib.hid (Kd.C_below Fk_10.out hb); clear hb))
  go_wp2_with (first
    | (go_at_call 29; have m := kept0C A0 c0 w11 HC11.out H4.out ; (with_reducible refine m.mono ?_); clear m; rintro e w12 ⟨Au, cu, rfl, hu, hC, hb⟩; have HC12 := Lib.hid (Kd.C_below HC11.out hb); have HB12 : Hid (Below w.heap.size w w12) := HB11.out.trans (hb.mono (by have := HB11.out.size; simp; omega)); have Fs_12 := Lib.hid (Kd.C_below Fs_11.out hb); have Fa_12 := Lib.hid (Kd.C_below Fa_11.out hb); have Fk_12 := Lib.hid (Kd.C_below Fk_11.out hb); have Fu_12 := Lib.hid hC; have Gu := Lib.hid hu; clear hC hu; clear hb))
  go_wp2_with (first
    | (go_at_call 29; have m := kept1C A0 c0 w12 HC12.out H4.out ; (with_reducible refine m.mono ?_); clear m; rintro e w13 ⟨Av, cv, rfl, hv, hC, hb⟩; have HC13 := Lib.hid (Kd.C_below HC12.out hb); have HB13 : Hid (Below w.heap.size w w13) := HB12.out.trans (hb.mono (by have := HB12.out.size; simp; omega)); have Fs_13 := Lib.hid (Kd.C_below Fs_12.out hb); have Fa_13 := Lib.hid (Kd.C_below Fa_12.out hb); have Fk_13 := Lib.hid (Kd.C_below Fk_12.out hb); have Fu_13 := Lib.hid (Kd.C_below Fu_12.out hb); have Fv_13 := Lib.hid hC; have Gv := Lib.hid hv; clear hC hv; clear hb))
  go_wp2_with (first
    | (go_at_call 34; have m := fewC A0 c0 w13 HC13.out H4.out ; (with_reducible refine m.mono ?_); clear m; rintro e w14 ⟨rfl, hb⟩; have HC14 := Lib.hid (Kd.C_below HC13.out hb); have HB14 : Hid (Below w.heap.size w w14) := HB13.out.trans (hb.mono (by have := HB13.out.size; simp; omega)); have Fs_14 := Lib.hid (Kd.C_below Fs_13.out hb); have Fa_14 := Lib.hid (Kd.C_below Fa_13.out hb); have Fk_14 := Lib.hid (Kd.C_below Fk_13.out hb); have Fu_14 := Lib.hid (Kd.C_below Fu_13.out hb); have Fv_14 := Lib.hid (Kd.C_below Fv_13.out hb); clear hb))
  go_wp2_with (first
    | (go_at_call 39; refine (of39 _ _).mono ?_; rintro e w' ⟨rfl, rfl⟩)
    | (go_at_call 31; have m := checkC A0 c0 (w14.alloc (.cells #[.int .i64 0, .int .i64 2, .int .i64 3] 3)) (Kd.C_alloc HC14.out _) H4.out (some ⟨w14.heap.size, 0, none⟩) 3 (C_lit w14 3 _ [0, 2, 3] #[.int .i64 0, .int .i64 2, .int .i64 3] rfl rfl (by simp)) (by omega) ; (with_reducible refine m.mono ?_); clear m; rintro e w15 ⟨rfl, hb⟩; have HC15 := Lib.hid (Kd.C_below (Kd.C_alloc HC14.out _) hb); have HB15 : Hid (Below w.heap.size w w15) := (HB14.out.alloc (by have := HB14.out.size; simp; omega) _).trans (hb.mono (by have := HB14.out.size; simp; omega)); have Fs_15 := Lib.hid (Kd.C_below (Kd.C_alloc Fs_14.out _) hb); have Fa_15 := Lib.hid (Kd.C_below (Kd.C_alloc Fa_14.out _) hb); have Fk_15 := Lib.hid (Kd.C_below (Kd.C_alloc Fk_14.out _) hb); have Fu_15 := Lib.hid (Kd.C_below (Kd.C_alloc Fu_14.out _) hb); have Fv_15 := Lib.hid (Kd.C_below (Kd.C_alloc Fv_14.out _) hb); clear hb))
  go_wp2_with (first
    | (go_at_call 36; have m := kindC A0 c0 w15 HC15.out H4.out ; (with_reducible refine m.mono ?_); clear m; rintro e w16 ⟨rfl, hb⟩; have HC16 := Lib.hid (Kd.C_below HC15.out hb); have HB16 : Hid (Below w.heap.size w w16) := HB15.out.trans (hb.mono (by have := HB15.out.size; simp; omega)); have Fs_16 := Lib.hid (Kd.C_below Fs_15.out hb); have Fa_16 := Lib.hid (Kd.C_below Fa_15.out hb); have Fk_16 := Lib.hid (Kd.C_below Fk_15.out hb); have Fu_16 := Lib.hid (Kd.C_below Fu_15.out hb); have Fv_16 := Lib.hid (Kd.C_below Fv_15.out hb); clear hb))
  go_wp2_with (first
    | (go_at_call 39; refine (of39 _ _).mono ?_; rintro e w' ⟨rfl, rfl⟩)
    | (go_at_call 18; have m := intsC [1, 0, 2, 3] [1, 0, 2, 3] 4 4 As cs (w16.alloc (.cells #[.int .i64 1, .int .i64 0, .int .i64 2, .int .i64 3] 3)) (Kd.C_alloc Fs_16.out _) Gs.out (some ⟨w16.heap.size, 0, none⟩) 4 (C_lit w16 3 _ [1, 0, 2, 3] #[.int .i64 1, .int .i64 0, .int .i64 2, .int .i64 3] rfl rfl (by simp)) (by omega) (by kernel_rfl); (with_reducible refine m.mono ?_); clear m; rintro e w17 ⟨rfl, hb⟩; have HB17 : Hid (Below w.heap.size w w17) := (HB16.out.alloc HB16.out.size _).trans (hb.mono (by have := HB16.out.size; simp; omega)); have Fs_17 := Lib.hid (Kd.C_below (Kd.C_alloc Fs_16.out _) hb); have Fa_17 := Lib.hid (Kd.C_below (Kd.C_alloc Fa_16.out _) hb); have Fk_17 := Lib.hid (Kd.C_below (Kd.C_alloc Fk_16.out _) hb); have Fu_17 := Lib.hid (Kd.C_below (Kd.C_alloc Fu_16.out _) hb); have Fv_17 := Lib.hid (Kd.C_below (Kd.C_alloc Fv_16.out _) hb); clear hb))
  go_wp2_with (first
    | (go_at_call 40; refine (longs40 _ _).mono ?_; rintro e w' ⟨rfl, rfl⟩)
    | (go_at_call 16; have m := longsC [5, 2, 9, 14] [5, 2, 9, 14] 4 4 Aa ca (w17.alloc (.cells #[.int .i64 5, .int .i64 2, .int .i64 9, .int .i64 14] 2)) (Kd.C_alloc Fa_17.out _) Ga.out (some ⟨w17.heap.size, 0, none⟩) 4 (C_lit w17 2 _ [5, 2, 9, 14] #[.int .i64 5, .int .i64 2, .int .i64 9, .int .i64 14] rfl rfl (by simp)) (by omega) (by kernel_rfl); (with_reducible refine m.mono ?_); clear m; rintro e w18 ⟨rfl, hb⟩; have HB18 : Hid (Below w.heap.size w w18) := (HB17.out.alloc HB17.out.size _).trans (hb.mono (by have := HB17.out.size; simp; omega)); have Fs_18 := Lib.hid (Kd.C_below (Kd.C_alloc Fs_17.out _) hb); have Fa_18 := Lib.hid (Kd.C_below (Kd.C_alloc Fa_17.out _) hb); have Fk_18 := Lib.hid (Kd.C_below (Kd.C_alloc Fk_17.out _) hb); have Fu_18 := Lib.hid (Kd.C_below (Kd.C_alloc Fu_17.out _) hb); have Fv_18 := Lib.hid (Kd.C_below (Kd.C_alloc Fv_17.out _) hb); clear hb))
  go_wp2_with (first
    | (go_at_call 39; refine (of39 _ _).mono ?_; rintro e w' ⟨rfl, rfl⟩)
    | (go_at_call 18; have m := intsC [1, 2, 1, 0] [1, 2, 1, 0] 4 4 Ak ck (w18.alloc (.cells #[.int .i64 1, .int .i64 2, .int .i64 1, .int .i64 0] 3)) (Kd.C_alloc Fk_18.out _) Gk.out (some ⟨w18.heap.size, 0, none⟩) 4 (C_lit w18 3 _ [1, 2, 1, 0] #[.int .i64 1, .int .i64 2, .int .i64 1, .int .i64 0] rfl rfl (by simp)) (by omega) (by kernel_rfl); (with_reducible refine m.mono ?_); clear m; rintro e w19 ⟨rfl, hb⟩; have HB19 : Hid (Below w.heap.size w w19) := (HB18.out.alloc HB18.out.size _).trans (hb.mono (by have := HB18.out.size; simp; omega)); have Fs_19 := Lib.hid (Kd.C_below (Kd.C_alloc Fs_18.out _) hb); have Fa_19 := Lib.hid (Kd.C_below (Kd.C_alloc Fa_18.out _) hb); have Fk_19 := Lib.hid (Kd.C_below (Kd.C_alloc Fk_18.out _) hb); have Fu_19 := Lib.hid (Kd.C_below (Kd.C_alloc Fu_18.out _) hb); have Fv_19 := Lib.hid (Kd.C_below (Kd.C_alloc Fv_18.out _) hb); clear hb))
  go_wp2_with (first
    | (go_at_call 39; refine (of39 _ _).mono ?_; rintro e w' ⟨rfl, rfl⟩)
    | (go_at_call 18; have m := intsC [0, 1, 3] [0, 1, 3] 3 3 Au cu (w19.alloc (.cells #[.int .i64 0, .int .i64 1, .int .i64 3] 3)) (Kd.C_alloc Fu_19.out _) Gu.out (some ⟨w19.heap.size, 0, none⟩) 3 (C_lit w19 3 _ [0, 1, 3] #[.int .i64 0, .int .i64 1, .int .i64 3] rfl rfl (by simp)) (by omega) (by kernel_rfl); (with_reducible refine m.mono ?_); clear m; rintro e w20 ⟨rfl, hb⟩; have HB20 : Hid (Below w.heap.size w w20) := (HB19.out.alloc HB19.out.size _).trans (hb.mono (by have := HB19.out.size; simp; omega)); have Fs_20 := Lib.hid (Kd.C_below (Kd.C_alloc Fs_19.out _) hb); have Fa_20 := Lib.hid (Kd.C_below (Kd.C_alloc Fa_19.out _) hb); have Fk_20 := Lib.hid (Kd.C_below (Kd.C_alloc Fk_19.out _) hb); have Fu_20 := Lib.hid (Kd.C_below (Kd.C_alloc Fu_19.out _) hb); have Fv_20 := Lib.hid (Kd.C_below (Kd.C_alloc Fv_19.out _) hb); clear hb))
  go_wp2_with (first
    | (go_at_call 39; refine (of39 _ _).mono ?_; rintro e w' ⟨rfl, rfl⟩)
    | (go_at_call 18; have m := intsC [1, 2] [1, 2] 2 2 Av cv (w20.alloc (.cells #[.int .i64 1, .int .i64 2] 3)) (Kd.C_alloc Fv_20.out _) Gv.out (some ⟨w20.heap.size, 0, none⟩) 2 (C_lit w20 3 _ [1, 2] #[.int .i64 1, .int .i64 2] rfl rfl (by simp)) (by omega) (by kernel_rfl); (with_reducible refine m.mono ?_); clear m; rintro e w21 ⟨rfl, hb⟩; have HB21 : Hid (Below w.heap.size w w21) := (HB20.out.alloc HB20.out.size _).trans (hb.mono (by have := HB20.out.size; simp; omega)); have Fs_21 := Lib.hid (Kd.C_below (Kd.C_alloc Fs_20.out _) hb); have Fa_21 := Lib.hid (Kd.C_below (Kd.C_alloc Fa_20.out _) hb); have Fk_21 := Lib.hid (Kd.C_below (Kd.C_alloc Fk_20.out _) hb); have Fu_21 := Lib.hid (Kd.C_below (Kd.C_alloc Fu_20.out _) hb); have Fv_21 := Lib.hid (Kd.C_below (Kd.C_alloc Fv_20.out _) hb); clear hb))
  go_ret
  exact ⟨rfl, HB21.out⟩
theorem fipplelaw05_Works.calls (r : Bool) (w : World) (h : fipplelaw05_Works.f = some r) : Calls Try.prog 9 #[] w fun e w' => e = .returned (.bool r) ∧ Below w.heap.size w w' := by
  injection h with h
  rw [← h]
  exact worksTrue w
end Go.Proofs.Ytmlahfidnfdhbaa.Pr
namespace Go.Proofs.Ytmlahfidnfdhbaa.Pr
open Go.RowKit Go.Proofs.YtmlahfidnfdhbaaW.PrintWords Go.Proofs.YtmlahfidnfdhbaaW.PrintLast Go.Proofs.YtmlahfidnfdhbaaW.PrintMore

def in64 (x : Int) : Prop := -9223372036854775808 ≤ x ∧ x ≤ 9223372036854775807
structure wf58 (x : S58) : Prop where
  a : in64 x.f0.f0
  b : in64 x.f0.f1
  c : in64 x.f1
theorem in64_wf {x : Int} (h : (Lit.int .i64 x).wf = true) : in64 x := by
  unfold Lit.wf at h
  simp only [Bool.and_eq_true, decide_eq_true_eq] at h
  have h1 : IntKind.i64.min = -9223372036854775808 := by kernel_rfl
  have h2 : IntKind.i64.max = 9223372036854775807 := by kernel_rfl
  rw [h1, h2] at h
  exact h
theorem cells58 : Try.prog.cellsOf 58 = 3 := by kernel_rfl
theorem cells56 : Try.prog.cellsOf 56 = 2 := by kernel_rfl
theorem cells2 : Try.prog.cellsOf 2 = 1 := by kernel_rfl
set_option maxRecDepth 100000 in
theorem trod58 {H : Type} {enc : TypeId × Value → H} {w : World} {base : Nat} {spare : Nat → Bool} {held : Bool} {n : Nat} {cs : List Value} {x : DataW H × List MemPlace} (h : DataW.trod enc Try.prog w base spare held n 58 cs = some x) :
    ∃ y : S58, cs = [.int .i64 y.f0.f0, .int .i64 y.f0.f1, .int .i64 y.f1] ∧ wf58 y := by
  obtain ⟨y0, y1, n1, _, hl, h0, h1⟩ := Go.ChangeShapes.trod_struct2 Try.underlying58 h
  obtain ⟨y2, y3, n2, _, hl2, h2, h3⟩ := Go.ChangeShapes.trod_struct2 Try.underlying56 h0
  obtain ⟨c, hc, _, wc⟩ := DataW.trod_int Try.underlying2 h1
  obtain ⟨a, ha, _, wa⟩ := DataW.trod_int Try.underlying2 h2
  obtain ⟨b, hb, _, wb⟩ := DataW.trod_int Try.underlying2 h3
  rw [cells58] at hl
  match cs, hl with
  | [u0, u1, u2], _ =>
    simp [cells56, cells2] at hc ha hb
    subst hc ha hb
    exact ⟨⟨⟨a, b⟩, c⟩, rfl, ⟨in64_wf wa, in64_wf wb, in64_wf wc⟩⟩
theorem open_orders {H : Type} {enc : TypeId × Value → H} {w : World} {spare : Nat → Bool} {held : Bool} {A : Option Addr} {len cap : Nat} {d : DataW H} {p : List MemPlace} (h : DataW.Trod enc Try.prog w 0 spare held 22 (.slice A len cap) d p) :
    len ≤ cap ∧ ∃ l : List S58, Kd.C k58 w A len l ∧ ∀ x ∈ l, wf58 x := by
  obtain ⟨n, hn⟩ := h
  simp only [Value.cells] at hn
  rcases Go.Deep.open_slice Try.underlying22 hn with ⟨hcs, _⟩ | ⟨a, len', cap', m, n', D, Pl, hcs, _, hl, hm, hmm, _, hx⟩
  · simp at hcs
    obtain ⟨rfl, rfl, rfl⟩ := hcs
    exact ⟨Nat.le_refl _, [], ⟨rfl, by simp, fun h => absurd h (by simp)⟩, by simp⟩
  · simp at hcs
    obtain ⟨rfl, rfl, rfl⟩ := hcs
    have hml : len ≤ m := by rw [hmm]; split <;> omega
    have hy : ∀ i, ∃ y : S58, i < len → (∃ cs, w.cells? 0 (a.add (i * 3)) 3 = some cs ∧ cs = [.int .i64 y.f0.f0, .int .i64 y.f0.f1, .int .i64 y.f1]) ∧ wf58 y := by
      intro i
      by_cases hi : i < len
      · obtain ⟨cs', h1, h2⟩ := hx i (by omega)
        obtain ⟨y, e, hw⟩ := trod58 h2
        rw [cells58] at h1
        exact ⟨y, fun _ => ⟨⟨cs', h1, e⟩, hw⟩⟩
      · exact ⟨⟨⟨0, 0⟩, 0⟩, fun h => absurd h hi⟩
    obtain ⟨Y, hY⟩ : ∃ Y : Nat → S58, ∀ i, i < len → (∃ cs, w.cells? 0 (a.add (i * 3)) 3 = some cs ∧ cs = [.int .i64 (Y i).f0.f0, .int .i64 (Y i).f0.f1, .int .i64 (Y i).f1]) ∧ wf58 (Y i) := ⟨fun i => Classical.choose (hy i), fun i => Classical.choose_spec (hy i)⟩
    refine ⟨hl, (List.range len).map Y, ⟨by simp, by have := hm; unfold maxLen at this; omega, fun _ => ⟨a, rfl, fun j p hj => ?_⟩⟩, ?_⟩
    · have hjl : j < len := by have := (List.getElem?_eq_some_iff.1 hj).1; simpa using this
      have hp : p = Y j := by simp [hjl] at hj; exact hj.symm
      subst hp
      obtain ⟨⟨cs, h1, h2⟩, _⟩ := hY j hjl
      subst h2
      refine ⟨_, rfl, k58_mk _ _, fun i u hu => ?_⟩
      obtain ⟨_, _, hcell⟩ := World.cells?_some h1
      have hi : i < 3 := (List.getElem?_eq_some_iff.1 hu).1
      have := hcell i hi
      rw [← hu, ← this]
      show w.cell? (a.add (j * 3 + i)) = _
      rw [Addr.add_add]
    · intro x hx
      obtain ⟨i, hi, rfl⟩ := List.mem_map.1 hx
      exact (hY i (List.mem_range.1 hi)).2
theorem open_row64 {H : Type} {enc : TypeId × Value → H} {w : World} {spare : Nat → Bool} {held : Bool} {A : Option Addr} {len cap : Nat} {d : DataW H} {p : List MemPlace} {t e : TypeId} (ht : Try.prog.underlying t = some (.slice e)) (he : Try.prog.underlying e = some (.int .i64)) (hce : Try.prog.cellsOf e = 1)
    (h : DataW.Trod enc Try.prog w 0 spare held t (.slice A len cap) d p) : len ≤ cap ∧ ∃ l : List Int, Kd.C (Kd.int .i64) w A len l ∧ ∀ x ∈ l, in64 x := by
  obtain ⟨n, hn⟩ := h
  simp only [Value.cells] at hn
  rcases Go.Deep.open_slice ht hn with ⟨hcs, _⟩ | ⟨a, len', cap', m, n', D, Pl, hcs, _, hl, hm, hmm, _, hx⟩
  · simp at hcs
    obtain ⟨rfl, rfl, rfl⟩ := hcs
    exact ⟨Nat.le_refl _, [], ⟨rfl, by simp, fun h => absurd h (by simp)⟩, by simp⟩
  · simp at hcs
    obtain ⟨rfl, rfl, rfl⟩ := hcs
    have hml : len ≤ m := by rw [hmm]; split <;> omega
    have hy : ∀ i, ∃ y : Int, i < len → (∃ cs, w.cells? 0 (a.add (i * 1)) 1 = some cs ∧ cs = [.int .i64 y]) ∧ in64 y := by
      intro i
      by_cases hi : i < len
      · obtain ⟨cs', h1, h2⟩ := hx i (by omega)
        obtain ⟨y, e, _, hw⟩ := DataW.trod_int he h2
        rw [hce] at h1
        exact ⟨y, fun _ => ⟨⟨cs', h1, e⟩, in64_wf hw⟩⟩
      · exact ⟨0, fun h => absurd h hi⟩
    obtain ⟨Y, hY⟩ : ∃ Y : Nat → Int, ∀ i, i < len → (∃ cs, w.cells? 0 (a.add (i * 1)) 1 = some cs ∧ cs = [.int .i64 (Y i)]) ∧ in64 (Y i) := ⟨fun i => Classical.choose (hy i), fun i => Classical.choose_spec (hy i)⟩
    refine ⟨hl, (List.range len).map Y, ⟨by simp, by have := hm; unfold maxLen at this; omega, fun _ => ⟨a, rfl, fun j p hj => ?_⟩⟩, ?_⟩
    · have hjl : j < len := by have := (List.getElem?_eq_some_iff.1 hj).1; simpa using this
      have hp : p = Y j := by simp [hjl] at hj; exact hj.symm
      subst hp
      obtain ⟨⟨cs, h1, h2⟩, _⟩ := hY j hjl
      subst h2
      refine ⟨_, rfl, rfl, fun i u hu => ?_⟩
      obtain ⟨_, _, hcell⟩ := World.cells?_some h1
      have hi : i < 1 := (List.getElem?_eq_some_iff.1 hu).1
      have := hcell i hi
      rw [← hu, ← this]
      show w.cell? (a.add (j * 1 + i)) = _
      rw [Addr.add_add]
    · intro x hx
      obtain ⟨i, hi, rfl⟩ := List.mem_map.1 hx
      exact (hY i (List.mem_range.1 hi)).2
end Go.Proofs.Ytmlahfidnfdhbaa.Pr
namespace Go.Proofs.Ytmlahfidnfdhbaa.Pr
open Go.RowKit Go.Proofs.YtmlahfidnfdhbaaW.PrintWords Go.Proofs.YtmlahfidnfdhbaaW.PrintLast Go.Proofs.YtmlahfidnfdhbaaW.PrintMore

theorem oddO_iff (lo hi due : Int) : oddO lo hi due = true ↔ lo < 1 ∨ 100 < lo ∨ hi < 1 ∨ 100 < hi ∨ hi < lo ∨ due < 0 ∨ 2000 < due := by
  simp [oddO, within_]; omega
theorem w1 (j : Nat) (h : j < 1000000) : wrap64 ((j : Int) + 1) = ((j + 1 : Nat) : Int) := by unfold wrap64; omega

theorem refCO_loop (l : List S58) (hl : l.length ≤ 10) : ∀ d j, l.length - j = d → j ≤ l.length → Ev (fun k => fippleref05_CheckOrders.l0 k l (j : Int)) (if (l.drop j).any (fun x => oddO x.f0.f0 x.f0.f1 x.f1) then 3 else 0) := by
  intro d
  induction d with
  | zero =>
    intro j h1 h2
    obtain rfl : j = l.length := by omega
    refine Ev.step (f := fun _ => some 0) (fun k => ?_) ?_
    · simp only [fippleref05_CheckOrders.l0]
      rw [if_neg (by omega)]
    · rw [List.drop_length]; exact Ev.now _
  | succ d ih =>
    intro j h1 h2
    have hj : j < l.length := by omega
    have hd : l.drop j = l[j] :: l.drop (j + 1) := List.drop_eq_getElem_cons hj
    have e := rdT_get l j hj
    rw [hd, List.any_cons]
    refine Ev.step (f := fun k => if oddO l[j].f0.f0 l[j].f0.f1 l[j].f1 = true then some 3 else fippleref05_CheckOrders.l0 k l ((j + 1 : Nat) : Int)) (fun k => ?_) ?_
    · simp only [fippleref05_CheckOrders.l0]
      rw [if_pos (by omega), if_pos (by omega), w1 j (by omega), e]
      by_cases ho : oddO l[j].f0.f0 l[j].f0.f1 l[j].f1 = true
      · rw [if_pos ho]
        rw [oddO_iff] at ho
        repeat' split
        all_goals first | rfl | omega
      · rw [if_neg ho]
        rw [oddO_iff] at ho
        rw [if_neg (by omega), if_neg (by omega), if_neg (by omega), if_neg (by omega), if_neg (by omega)]
    · cases h : oddO l[j].f0.f0 l[j].f0.f1 l[j].f1
      · simp only [Bool.false_eq_true, if_false, Bool.false_or]
        exact ih (j + 1) (by omega) (by omega)
      · exact Ev.now _
theorem refCO_ev (l : List S58) : Ev (fun k => fippleref05_CheckOrders.f k l) (checkO l) := by
  unfold fippleref05_CheckOrders.f checkO
  by_cases h : 10 < l.length
  · rw [if_pos h]
    simp only [if_pos (show (l.length : Int) > 10 by omega)]
    exact Ev.now _
  · rw [if_neg h]
    simp only [if_neg (show ¬ (l.length : Int) > 10 by omega)]
    have := refCO_loop l (by omega) l.length 0 rfl (by omega)
    rw [List.drop_zero] at this
    exact this

theorem place_loop (s : List Int) (x : Int) (hs : s.length ≤ 1000) : ∀ d j, s.length - j = d → j ≤ s.length → Ev (fun k => fippleref05_Place.l0 k s x (j : Int)) (if (s.drop j).contains x then j + ((s.drop j).idxOf x : Nat) else -1) := by
  intro d
  induction d with
  | zero =>
    intro j h1 h2
    obtain rfl : j = s.length := by omega
    refine Ev.step (f := fun _ => some (-1)) (fun k => ?_) ?_
    · simp only [fippleref05_Place.l0]
      rw [if_neg (by omega)]
    · have e : (if (List.drop s.length s).contains x = true then ((s.length : Nat) : Int) + ((List.idxOf x (List.drop s.length s) : Nat) : Int) else -1) = -1 := by simp
      rw [e]
      exact Ev.now _
  | succ d ih =>
    intro j h1 h2
    have hj : j < s.length := by omega
    have hd : s.drop j = s[j] :: s.drop (j + 1) := List.drop_eq_getElem_cons hj
    by_cases hx : s[j] = x
    · refine Ev.step (f := fun _ => some (j : Int)) (fun k => ?_) ?_
      · simp only [fippleref05_Place.l0]
        rw [if_pos (by omega), if_pos (by omega), rd_get s j hj, if_pos hx]
      · rw [hd]
        have e : (if (s[j] :: List.drop (j + 1) s).contains x = true then (j : Int) + ((List.idxOf x (s[j] :: List.drop (j + 1) s) : Nat) : Int) else -1) = j := by
          rw [hx]; simp
        rw [e]
        exact Ev.now _
    · refine Ev.step (f := fun k => fippleref05_Place.l0 k s x ((j + 1 : Nat) : Int)) (fun k => ?_) ?_
      · simp only [fippleref05_Place.l0]
        rw [if_pos (by omega), if_pos (by omega), rd_get s j hj, if_neg hx, w1 j (by omega)]
      · have := ih (j + 1) (by omega) (by omega)
        rw [hd]
        have hx' : (x == s[j]) = false := by simpa using fun h => hx h.symm
        have hx2 : (s[j] == x) = false := by simpa using hx
        simp only [List.contains_cons, hx', Bool.false_or, List.idxOf_cons, hx2, cond_false]
        split at this
        · rename_i hc
          rw [if_pos hc]
          have e : (j : Int) + ((List.idxOf x (List.drop (j + 1) s) + 1 : Nat) : Int) = ((j + 1 : Nat) : Int) + (List.idxOf x (List.drop (j + 1) s) : Nat) := by omega
          rw [e]
          exact this
        · rename_i hc
          rw [if_neg hc]
          exact this
theorem place_ev (s : List Int) (x : Int) (hs : s.length ≤ 1000) : Ev (fun k => fippleref05_Place.f k s x) (if s.contains x then (s.idxOf x : Int) else -1) := by
  have := place_loop s x hs s.length 0 rfl (by omega)
  simp only [List.drop_zero, Int.natCast_zero, Int.zero_add] at this
  exact this

theorem refCS_loop (l : List S58) (s : List Int) (hl : l.length ≤ 20) (hs : s.length ≤ 1000) : ∀ d j, l.length - j = d → j ≤ l.length →
    Ev (fun k => fippleref05_CheckSequence.l0 k l s (j : Int)) (if ((iota l.length).drop j).all (fun i => s.contains i) = true then 0 else 2) := by
  intro d
  induction d with
  | zero =>
    intro j h1 h2
    obtain rfl : j = l.length := by omega
    refine Ev.step (f := fun _ => some 0) (fun k => ?_) ?_
    · simp only [fippleref05_CheckSequence.l0]
      rw [if_neg (by omega)]
    · rw [List.drop_of_length_le (by rw [iota_len]; omega)]
      exact Ev.now _
  | succ d ih =>
    intro j h1 h2
    have hj : j < l.length := by omega
    have hd : (iota l.length).drop j = (j : Int) :: (iota l.length).drop (j + 1) := by
      rw [List.drop_eq_getElem_cons (by rw [iota_len]; omega)]
      simp [iota]
    refine Ev.step (f := fun k => (fippleref05_Place.f k s (j : Int)).bind fun t => (if t < 0 then (some 2) else (fippleref05_CheckSequence.l0 k l s ((j + 1 : Nat) : Int)))) (fun k => ?_) ?_
    · simp only [fippleref05_CheckSequence.l0]
      rw [if_pos (by omega)]
      congr 1
      funext t
      rw [w1 j (by omega)]
    · refine Ev.bind (place_ev s j hs) ?_
      rw [hd, List.all_cons]
      cases h : s.contains (j : Int)
      · exact Ev.now _
      · simp only [if_true, Bool.true_and]
        simp only [if_neg (show ¬ ((List.idxOf (j : Int) s : Nat) : Int) < 0 by omega)]
        exact ih (j + 1) (by omega) (by omega)
theorem refCS_ev (l : List S58) (s : List Int) (hs : s.length ≤ 15) : Ev (fun k => fippleref05_CheckSequence.f k l s) (seqErr l s) := by
  unfold fippleref05_CheckSequence.f seqErr
  refine Ev.bind (refCO_ev l) ?_
  by_cases h1 : checkO l = 0
  · simp only [if_pos h1]
    have hl := checkO_len h1
    by_cases h2 : s.length = l.length
    · rw [if_pos h2]
      simp only [if_pos (show (s.length : Int) = (l.length : Int) by omega)]
      have := refCS_loop l s (by omega) (by omega) l.length 0 rfl (by omega)
      rw [List.drop_zero] at this
      exact this
    · rw [if_neg h2]
      simp only [if_neg (show ¬ (s.length : Int) = (l.length : Int) by omega)]
      exact Ev.now _
  · simp only [if_neg h1]
    refine Ev.bind (refCO_ev l) ?_
    exact Ev.now _

theorem refEndsOf_loop (s ws : List Int) (hs : s.length ≤ 1000) (hr : ∀ x ∈ s, 0 ≤ x ∧ x < ws.length ∧ x < s.length) : ∀ d j (q : Int × List Int), s.length - j = d → j ≤ s.length → q.2.length = s.length →
    Ev (fun k => fippleref05_EndsOf.l0 k s ws q.2 q.1 (j : Int)) ((s.drop j).foldl (endsStep ws) q).2 := by
  intro d
  induction d with
  | zero =>
    intro j q h1 h2 h3
    obtain rfl : j = s.length := by omega
    refine Ev.step (f := fun _ => some q.2) (fun k => ?_) ?_
    · simp only [fippleref05_EndsOf.l0]
      rw [if_neg (by omega)]
    · rw [List.drop_length]
      exact Ev.now _
  | succ d ih =>
    intro j q h1 h2 h3
    have hj : j < s.length := by omega
    have hd : s.drop j = s[j] :: s.drop (j + 1) := List.drop_eq_getElem_cons hj
    obtain ⟨r1, r2, r3⟩ := hr s[j] (List.getElem_mem hj)
    refine Ev.step (f := fun k => fippleref05_EndsOf.l0 k s ws (endsStep ws q s[j]).2 (endsStep ws q s[j]).1 ((j + 1 : Nat) : Int)) (fun k => ?_) ?_
    · simp only [fippleref05_EndsOf.l0]
      rw [if_pos (by omega), if_pos (by omega), rd_get s j hj, if_pos r1, if_pos r2, if_pos (by omega), w1 j (by omega)]
      rfl
    · rw [hd, List.foldl_cons]
      exact ih (j + 1) _ (by omega) (by omega) (by simp [endsStep, h3])
theorem refEndsOf_ev (s ws : List Int) (hs : s.length ≤ 1000) (hr : ∀ x ∈ s, 0 ≤ x ∧ x < ws.length ∧ x < s.length) : Ev (fun k => fippleref05_EndsOf.f k s ws) (endsL s ws) := by
  unfold fippleref05_EndsOf.f
  simp only [if_pos (show (0 : Int) ≤ (s.length : Int) by omega), if_pos (show ((s.length : Int)).toNat ≤ 35184372088832 by omega)]
  have := refEndsOf_loop s ws hs hr s.length 0 (0, List.replicate s.length 0) rfl (by omega) (by simp)
  unfold endsL
  simpa using this
end Go.Proofs.Ytmlahfidnfdhbaa.Pr
namespace Go.Proofs.Ytmlahfidnfdhbaa.Pr
open Go.RowKit Go.Proofs.YtmlahfidnfdhbaaW.PrintWords Go.Proofs.YtmlahfidnfdhbaaW.PrintLast Go.Proofs.YtmlahfidnfdhbaaW.PrintMore

theorem delays_rd (l : List S58) (es : List Int) : ∀ (k i : Nat), i < es.length → rd (delays l es k) (i : Nat) = if i < k then wrap64 (rd es (i : Nat) - (rd_T58 l (i : Nat)).f1) else rd es (i : Nat)
  | 0, i, h => by simp [delays]
  | k + 1, i, h => by
    have hlen := delays_len l es k
    have hlen' := delays_len l es (k + 1)
    rw [rd_get _ i (by omega)]
    simp only [delays]
    by_cases hik : i = k
    · subst hik
      rw [List.getElem_set_self, delays_rd l es i i h]
      rw [if_neg (by omega), if_pos (by omega)]
    · rw [List.getElem_set_ne (by omega)]
      have := delays_rd l es k i h
      rw [rd_get _ i (by omega)] at this
      rw [this]
      by_cases h1 : i < k
      · rw [if_pos h1, if_pos (by omega)]
      · rw [if_neg h1, if_neg (by omega)]
theorem maxTo_mx (l : List Int) (k : Nat) : maxTo l (k + 1) = mx (maxTo l k) (rd l ((k + 1 : Nat) : Int)) := rfl

theorem refDelay_loop (l : List S58) (es : List Int) (hl : l.length ≤ 20) (he : es.length = l.length) : ∀ d j, l.length - j = d → 1 ≤ j → j ≤ l.length →
    Ev (fun k => fippleref05_DelayOf.l0 k l es (maxTo (delays l es l.length) (j - 1)) (j : Int)) (maxTo (delays l es l.length) (l.length - 1)) := by
  intro d
  induction d with
  | zero =>
    intro j h1 h0 h2
    obtain rfl : j = l.length := by omega
    refine Ev.step (f := fun _ => some (maxTo (delays l es l.length) (l.length - 1))) (fun k => ?_) ?_
    · simp only [fippleref05_DelayOf.l0]
      rw [if_neg (by omega)]
    · exact Ev.now _
  | succ d ih =>
    intro j h1 h0 h2
    have hj : j < l.length := by omega
    refine Ev.step (f := fun k => fippleref05_DelayOf.l0 k l es (maxTo (delays l es l.length) ((j + 1) - 1)) ((j + 1 : Nat) : Int)) (fun k => ?_) (ih (j + 1) (by omega) (by omega) (by omega))
    simp only [fippleref05_DelayOf.l0]
    rw [if_pos (by omega), if_pos (by omega), if_pos (by omega), w1 j (by omega)]
    congr 1
    obtain ⟨i, rfl⟩ : ∃ i, j = i + 1 := ⟨j - 1, by omega⟩
    have := delays_rd l es l.length (i + 1) (by omega)
    rw [if_pos (by omega)] at this
    rw [show i + 1 + 1 - 1 = i + 1 by omega, maxTo_mx, this]
    rfl
theorem refDelayOf_ev (l : List S58) (s ws : List Int) (hl : l.length ≤ 20) (h0 : 0 < l.length) (hs : s.length = l.length) (hr : ∀ x ∈ s, 0 ≤ x ∧ x < ws.length ∧ x < s.length) :
    Ev (fun k => fippleref05_DelayOf.f k l s ws) (maxTo (delays l (endsL s ws) l.length) (l.length - 1)) := by
  unfold fippleref05_DelayOf.f
  refine Ev.bind (refEndsOf_ev s ws (by omega) hr) ?_
  have hel := endsL_len s ws
  simp only [if_pos (show 0 < ((endsL s ws).length : Int) by omega), if_pos (show 0 < (l.length : Int) by omega)]
  have := refDelay_loop l (endsL s ws) hl (by omega) (l.length - 1) 1 (by omega) (by omega) (by omega)
  have e : maxTo (delays l (endsL s ws) l.length) (1 - 1) = wrap64 (rd (endsL s ws) 0 - (rd_T58 l 0).f1) := by
    have := delays_rd l (endsL s ws) l.length 0 (by omega)
    rw [if_pos h0] at this
    exact this
  rw [e] at this
  exact this
theorem endsErr_zero {l : List S58} {s ws : List Int} (h : endsErr l s ws = 0) : seqErr l s = 0 ∧ ws.length = l.length := by
  unfold endsErr at h
  split at h
  · rename_i h1
    split at h
    · rename_i h2; exact ⟨h1, h2⟩
    · simp at h
  · rename_i h1; exact absurd h h1
theorem ints_loop (xs : List Int) (hs : xs.length ≤ 1000) : ∀ d j, xs.length - j = d → j ≤ xs.length → Ev (fun k => fipplelaw05_Ints.l0 k xs xs (j : Int)) true := by
  intro d
  induction d with
  | zero =>
    intro j h1 h2
    obtain rfl : j = xs.length := by omega
    refine Ev.step (f := fun _ => some true) (fun k => ?_) (Ev.now _)
    simp only [fipplelaw05_Ints.l0]
    rw [if_neg (by omega)]
  | succ d ih =>
    intro j h1 h2
    refine Ev.step (f := fun k => fipplelaw05_Ints.l0 k xs xs ((j + 1 : Nat) : Int)) (fun k => ?_) (ih (j + 1) (by omega) (by omega))
    simp only [fipplelaw05_Ints.l0]
    rw [if_pos (by omega), if_pos (by omega), if_pos (by omega), w1 j (by omega)]
    simp
theorem ints_ev (xs : List Int) (hs : xs.length ≤ 1000) : Ev (fun k => fipplelaw05_Ints.f k xs xs) true := by
  unfold fipplelaw05_Ints.f
  simp only [if_true]
  exact ints_loop xs hs xs.length 0 rfl (by omega)
theorem longs_loop (xs : List Int) (hs : xs.length ≤ 1000) : ∀ d j, xs.length - j = d → j ≤ xs.length → Ev (fun k => fipplelaw05_Longs.l0 k xs xs (j : Int)) true := by
  intro d
  induction d with
  | zero =>
    intro j h1 h2
    obtain rfl : j = xs.length := by omega
    refine Ev.step (f := fun _ => some true) (fun k => ?_) (Ev.now _)
    simp only [fipplelaw05_Longs.l0]
    rw [if_neg (by omega)]
  | succ d ih =>
    intro j h1 h2
    refine Ev.step (f := fun k => fipplelaw05_Longs.l0 k xs xs ((j + 1 : Nat) : Int)) (fun k => ?_) (ih (j + 1) (by omega) (by omega))
    simp only [fipplelaw05_Longs.l0]
    rw [if_pos (by omega), if_pos (by omega), if_pos (by omega), w1 j (by omega)]
    simp
theorem longs_ev (xs : List Int) (hs : xs.length ≤ 1000) : Ev (fun k => fipplelaw05_Longs.f k xs xs) true := by
  unfold fipplelaw05_Longs.f
  simp only [if_true]
  exact longs_loop xs hs xs.length 0 rfl (by omega)
theorem same_loop (xs : List S58) (hs : xs.length ≤ 1000) : ∀ d j, xs.length - j = d → j ≤ xs.length → Ev (fun k => fipplelaw05_same.l0 k xs xs (j : Int)) true := by
  intro d
  induction d with
  | zero =>
    intro j h1 h2
    obtain rfl : j = xs.length := by omega
    refine Ev.step (f := fun _ => some true) (fun k => ?_) (Ev.now _)
    simp only [fipplelaw05_same.l0]
    rw [if_neg (by omega)]
  | succ d ih =>
    intro j h1 h2
    refine Ev.step (f := fun k => fipplelaw05_same.l0 k xs xs ((j + 1 : Nat) : Int)) (fun k => ?_) (ih (j + 1) (by omega) (by omega))
    simp only [fipplelaw05_same.l0]
    rw [if_pos (by omega), if_pos (by omega), if_pos (by omega), w1 j (by omega)]
    simp
theorem same_ev (xs : List S58) (hs : xs.length ≤ 1000) : Ev (fun k => fipplelaw05_same.f k xs xs) true := by
  unfold fipplelaw05_same.f
  simp only [if_true]
  exact same_loop xs hs xs.length 0 rfl (by omega)
end Go.Proofs.Ytmlahfidnfdhbaa.Pr
namespace Go.Proofs.Ytmlahfidnfdhbaa.Pr
open Go.RowKit Go.Proofs.YtmlahfidnfdhbaaW.PrintWords Go.Proofs.YtmlahfidnfdhbaaW.PrintLast Go.Proofs.YtmlahfidnfdhbaaW.PrintMore
theorem k58_KM {w0 w : World} {base : Nat} {ok : Nat → Prop} {x : S58} {cs : List Value} (h : k58.K w0 x cs) : k58.M w base ok x cs := by
  rw [k58_open h]; exact k58_mkM _ _ _ _
theorem great_b (A : Option Addr) (c : Nat) (l : List S58) (b : Bool) (w : World) (hr : Kd.C k58 w A l.length l) (hc : l.length ≤ c) (h : decide ((l.length : Int) > 15) = b) : Calls Try.prog 8 #[.slice A l.length c] w fun e w' => e = .returned (.bool b) ∧ Below w.heap.size w w' :=
  (fipplelaw05_great.calls A c l b w hr hc (congrArg some h)).mono fun e w' ⟨e1, hd⟩ => ⟨e1, below_d0 (Below.refl _ _) hd⟩
theorem longsK (k : Nat) (xs : List Int) (A : Option Addr) (c : Nat) (A' : Option Addr) (c' : Nat) (w : World) (h1 : Kd.C (Kd.int .i64) w A xs.length xs) (hc : xs.length ≤ c) (h2 : Kd.C (Kd.int .i64) w A' xs.length xs) (hc' : xs.length ≤ c') (h : fipplelaw05_Longs.f k xs xs = some true) :
    Calls Try.prog 16 #[.slice A xs.length c, .slice A' xs.length c'] w fun e w' => e = .returned (.bool true) ∧ Below w.heap.size w w' :=
  (fipplelaw05_Longs.calls k A c xs A' c' xs true w h1 hc h2 hc' h).mono fun e w' ⟨e1, hd⟩ => ⟨e1, below_d0 (Below.refl _ _) hd⟩
theorem intsK (k : Nat) (xs : List Int) (A : Option Addr) (c : Nat) (A' : Option Addr) (c' : Nat) (w : World) (h1 : Kd.C (Kd.int .i64) w A xs.length xs) (hc : xs.length ≤ c) (h2 : Kd.C (Kd.int .i64) w A' xs.length xs) (hc' : xs.length ≤ c') (h : fipplelaw05_Ints.f k xs xs = some true) :
    Calls Try.prog 18 #[.slice A xs.length c, .slice A' xs.length c'] w fun e w' => e = .returned (.bool true) ∧ Below w.heap.size w w' :=
  (fipplelaw05_Ints.calls k A c xs A' c' xs true w h1 hc h2 hc' h).mono fun e w' ⟨e1, hd⟩ => ⟨e1, below_d0 (Below.refl _ _) hd⟩
theorem sameK (k : Nat) (xs : List S58) (A : Option Addr) (c : Nat) (A' : Option Addr) (c' : Nat) (w : World) (h1 : Kd.C k58 w A xs.length xs) (hc : xs.length ≤ c) (h2 : Kd.C k58 w A' xs.length xs) (hc' : xs.length ≤ c') (h : fipplelaw05_same.f k xs xs = some true) :
    Calls Try.prog 17 #[.slice A xs.length c, .slice A' xs.length c'] w fun e w' => e = .returned (.bool true) ∧ Below w.heap.size w w' :=
  (fipplelaw05_same.calls k A c xs A' c' xs true w h1 hc h2 hc' h).mono fun e w' ⟨e1, hd⟩ => ⟨e1, below_d0 (Below.refl _ _) hd⟩
/-- Whatever is asked of orders alone: too many. -/
def retTrue (w : World) (e : Ending) (w' : World) : Prop := e = .returned (.bool true) ∧ Below w.heap.size w w'
end Go.Proofs.Ytmlahfidnfdhbaa.Pr
