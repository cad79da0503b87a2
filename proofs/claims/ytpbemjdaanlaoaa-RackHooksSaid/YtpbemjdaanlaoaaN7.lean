/- Lemmas for the laws of rack: E5, E6. -/
import Derived.Test.YtpbemjdaanlaoaaN5
import Derived.Test.YtpbemjdaanlaoaaN6
import Derived.Test.YtpbemjdaanlaoaaN2
import Derived.Test.YtpbemjdaanlaoaaN1
import Derived.Deep.RegionLawGrows
set_option linter.unusedVariables false
set_option linter.unusedSimpArgs false
set_option linter.unusedVariables false
set_option linter.unusedSimpArgs false
namespace Go.Proofs.Ytpbemjdaanlaoaa.Pr
open Go.RowKit Go.Proofs.YtpbemjdaanlaoaaW.PrintWords Go.Proofs.YtpbemjdaanlaoaaW.PrintLast Go.Proofs.YtpbemjdaanlaoaaW.PrintMore
open Go.Sort
set_option maxRecDepth 100000

set_option maxHeartbeats 400000 in
theorem falls72 (k : Nat) (A : Option Addr) (c : Nat) (l : List Int) (b : Nat) (As : Option Addr) (cs : Nat) (s : List Int) (r : Bool) (w : World) (hl : l.length ≤ c) (hcs : s.length ≤ cs) (hr : Kd.C (Kd.int .i64) w A l.length l) (hs : Kd.C (Kd.int .i64) w As s.length s) (h1 : w.cell? ⟨b, 0, none⟩ = some (.slice As s.length cs)) (h : rack_falls.f k s l = some r) :
    Calls Try.prog 72 #[.slice A l.length c, .pointer (some ⟨b, 0, none⟩)] w fun e w' => e = .returned (.bool (!r)) ∧ Below w.heap.size w w' := by
  have h73 := rack_falls.calls k As cs s A c l r w hs hcs hr hl h
  clear hr hs h
  go_enter Try.func72, Try.ntmps72
  go_wp2_with (go_at_call 73; refine h73.mono ?_; rintro e w' ⟨rfl, hb⟩)
  go_ret
  exact ⟨rfl, by first | exact hb | (obtain ⟨n, rfl⟩ := hb; exact pw_below_drewN (Below.refl _ _) n)⟩
/-- What Sort left reads. -/
theorem sorted_reads {w : World} {base : Nat} {A : Option Addr} {zs : List Int} (hl : zs.length ≤ 1000) (h : Sorted48 w base A zs) : Kd.C (Kd.int .i64) w A zs.length (zs.mergeSort fun x y => decide (x ≤ y)) := by
  have e : (zs.mergeSort fun x y => decide (x ≤ y)).length = zs.length := List.length_mergeSort _
  rcases h with rfl | ⟨g, rfl, hg, hlt, hH⟩
  · exact ⟨e, by simp, fun h => absurd h (by simp)⟩
  · generalize (zs.mergeSort fun x y => decide (x ≤ y)) = s at *
    rw [← e]
    refine Kd.C_of_reads (d := (0 : Int)) ⟨rfl, by omega, fun hn => ⟨⟨g, 0, none⟩, rfl, fun j hj => ?_⟩⟩
    have h2 := (hH j (by simpa using hj)).1
    rw [Nat.zero_add] at h2
    have e9 : (⟨g, 0, none⟩ : Addr).add j = ⟨g, j, none⟩ := by unfold Addr.add; split <;> simp_all
    rw [e9, h2]
    have e3 : (s.toArray)[j]! = s.getD j 0 := by
      rw [getElem!_pos _ _ (by simpa using hj)]
      simp [List.getD_eq_getElem?_getD, List.getElem?_eq_getElem hj]
    rw [e3]
/-- What is asked of a sequence and runs, and the answer. -/
structure FallsOk (s : List Int) (runs : List (List Int)) : Prop where
  seq : seqC s = 0
  hl : runs.flatten.length ≤ 1000
  wi : within_ 0 ((s.length : Int) - 1) runs.flatten = true
  ri : ∃ k, rack_rising.f k (runs.flatten.mergeSort fun x y => decide (x ≤ y)) (s.length : Int) = some true

set_option maxHeartbeats 4000000 in
theorem checkFalls36_len (A0 : Option Addr) (c0 : Nat) (s : List Int) (A1 : Option Addr) (c1 : Nat) (runs : List (List Int)) (w : World) (hr0 : Kd.C (Kd.int .i64) w A0 s.length s) (hc0 : s.length ≤ c0) (hr1 : Kd.C (Kd.slice 3 (Kd.int .i64)) w A1 runs.length runs) (hc1 : runs.length ≤ c1)
    (h : FallsOk s runs) (hne : runs.flatten.length ≠ s.length) :
    Calls Try.prog 36 #[.slice A0 s.length c0, .slice A1 runs.length c1] w fun e w' => e = .returned (.tuple #[.int .i64 0, .int .i64 15]) ∧ Below w.heap.size w w' := by
  obtain ⟨hseq, hl, hwi, k, hri⟩ := h
  have hsl := (seqC_ok hseq).1
  obtain ⟨fl, hfl⟩ : ∃ fl, fl = runs.flatten := ⟨_, rfl⟩
  rw [← hfl] at hl hwi hri hne
  have h23 : ∀ w1, Below w.heap.size w w1 → Calls Try.prog 23 #[.slice A0 s.length c0] w1 fun e w' => e = .returned (.int .i64 0) ∧ Below w1.heap.size w1 w' := fun w1 hB => by
    have := checkSeq23 A0 c0 s w1 (Kd.C_below hr0 hB) hc0
    rw [hseq] at this; exact this
  have hcat : ∀ w1, Below w.heap.size w w1 → Calls Try.prog 41 #[.slice A1 runs.length c1] w1 fun e w' => ∃ v0_ : Value, e = .returned (v0_) ∧ Kd.R (Kd.int .i64) 3 w' w1.heap.size (fun _ => True) v0_ fl ∧ Below w1.heap.size w1 w' := fun w1 hB =>
    slices_Concat_int_int.calls A1 c1 runs fl w1 (Kd.C_below hr1 hB) hc1 (by unfold slices_Concat_int_int.f; rw [← hfl, if_pos hl])
  have h42 : ∀ (A : Option Addr) (c : Nat) (w1 : World), Kd.C (Kd.int .i64) w1 A fl.length fl → Calls Try.prog 42 #[.int .i64 0, .int .i64 ((s.length : Int) - 1), .slice A fl.length c] w1 fun e w' => e = .returned (.bool true) ∧ Below w1.heap.size w1 w' := fun A c w1 hC => by
    have := within42 0 ((s.length : Int) - 1) A c fl w1 hC
    rw [show (!fl.any fun n => decide (n < 0) || decide ((s.length : Int) - 1 < n)) = true from hwi] at this
    exact this
  have h69 : ∀ (A : Option Addr) (c : Nat) (w1 : World), fl.length ≤ c → Sorted48 w1 w.heap.size A fl → Calls Try.prog 69 #[.slice A fl.length c, .int .i64 (s.length : Int)] w1 fun e w' => e = .returned (.bool true) ∧ Below w1.heap.size w1 w' := fun A c w1 hc hS => by
    have e : (fl.mergeSort fun x y => decide (x ≤ y)).length = fl.length := List.length_mergeSort _
    have hC := sorted_reads hl hS
    have := rack_rising.calls k A c (fl.mergeSort fun x y => decide (x ≤ y)) (s.length : Int) true w1 (by rw [e]; exact hC) (by rw [e]; exact hc) hri
    rw [e] at this
    exact this.mono fun e w' ⟨h1, h2⟩ => ⟨h1, by first | exact h2 | (obtain ⟨n, rfl⟩ := h2; exact pw_below_drewN (Below.refl _ _) n)⟩
  have H23 := Lib.hid h23; have HCAT := Lib.hid hcat; have H42 := Lib.hid h42; have H69 := Lib.hid h69; have HL := Lib.hid hl
  have hneb : ((fl.length : Int) != (s.length : Int)) = true := by simp; omega
  clear h23 hcat h42 h69 hr0 hr1 hseq hwi hri hfl hl hne
  have hb0 : Below w.heap.size w (w.alloc (.cells #[.slice A0 s.length c0] 32)) := (Below.refl _ w).alloc (Nat.le_refl _) _
  have x0 : (w.alloc (.cells #[.slice A0 s.length c0] 32)).cell? ⟨w.heap.size, 0, none⟩ = some (.slice A0 s.length c0) := by simp [go_sem]
  have HBA := Lib.hid hb0
  have x00 := x0
  go_enter Try.func36, Try.ntmps36
  go_wp2_with (first
    | (go_at_call 23; refine (H23.out _ HBA.out).mono ?_; rintro e w1 ⟨rfl, hb1⟩; have x1 := (hb1.cell (p := ⟨w.heap.size, 0, none⟩) (by simp)).trans x00; have HB1 := Lib.hid (HBA.out.trans (hb1.mono HBA.out.size)); clear hb1)
    | (go_at_call 41; refine (HCAT.out _ HB1.out).mono ?_; rintro e w2 ⟨v2, rfl, hR2, hb2⟩; obtain ⟨A2, c2, rfl, hc2, hC2⟩ := Kd.R_reads hR2; have x2 := pw_cell_below hb2 x1; have HB2 := Lib.hid (HB1.out.trans (hb2.mono HB1.out.size)); have HR2 := Lib.hid hR2; have HC2 := Lib.hid hC2; have HSZ := Lib.hid hb2.size; have HSZ1 := HB1; clear hb2 hR2 hC2)
    | (go_at_call 42; refine (H42.out A2 c2 _ HC2.out).mono ?_; rintro e w3 ⟨rfl, hb3⟩; have x3 := pw_cell_below hb3 x2; have HR3 := Lib.hid (Kd.R_below HR2.out hb3); have HB3 := Lib.hid (HB2.out.trans (hb3.mono HB2.out.size)); have HSZ3 := Lib.hid (Nat.le_trans HSZ.out hb3.size); clear hb3)
    | (go_at_call 48; refine (sort48 A2 c2 fl w1.heap.size _ _ HSZ3.out HL.out HR3.out).mono ?_; rintro e w4 ⟨rfl, hb4, hs4⟩; have x4 : w4.cell? ⟨w.heap.size, 0, none⟩ = some (.slice A0 s.length c0) := (hb4.cell (p := ⟨w.heap.size, 0, none⟩) (by have := World.block_lt_of_cell? _ _ x1; exact this)).trans x3; have HB4 := Lib.hid (HB3.out.trans (hb4.mono HB1.out.size)); have hs4' : Sorted48 w4 w.heap.size A2 fl := (by rcases hs4 with h | ⟨g, h1, h2, h3, h4⟩; exact .inl h; exact .inr ⟨g, h1, Nat.le_trans HB1.out.size h2, h3, h4⟩); have HS4 := Lib.hid hs4'; clear hb4 hs4 hs4')
    | (go_at_call 69; refine (H69.out A2 c2 _ hc2 HS4.out).mono ?_; rintro e w5 ⟨rfl, hb5⟩; have x5 := pw_cell_below hb5 x4; have HB5 := Lib.hid (HB4.out.trans (hb5.mono HB4.out.size)); clear hb5))
  go_ret2
  exact ⟨rfl, HB5.out⟩
set_option maxHeartbeats 4000000 in
theorem checkFalls36_ok (A0 : Option Addr) (c0 : Nat) (s : List Int) (A1 : Option Addr) (c1 : Nat) (runs : List (List Int)) (w : World) (hr0 : Kd.C (Kd.int .i64) w A0 s.length s) (hc0 : s.length ≤ c0) (hr1 : Kd.C (Kd.slice 3 (Kd.int .i64)) w A1 runs.length runs) (hc1 : runs.length ≤ c1)
    (h : FallsOk s runs) (hne : runs.flatten.length = s.length) (hno : ∀ l ∈ runs, l.length ≠ 0) {k2 : Nat} (hfa : ∀ l ∈ runs, rack_falls.f k2 s l = some true) :
    Calls Try.prog 36 #[.slice A0 s.length c0, .slice A1 runs.length c1] w fun e w' => e = .returned (.tuple #[.int .i64 (runs.length : Int), .int .i64 0]) ∧ Below w.heap.size w w' := by
  obtain ⟨hseq, hl, hwi, k, hri⟩ := h
  have hsl := (seqC_ok hseq).1
  obtain ⟨fl, hfl⟩ : ∃ fl, fl = runs.flatten := ⟨_, rfl⟩
  rw [← hfl] at hl hwi hri hne
  have h23 : ∀ w1, Below w.heap.size w w1 → Calls Try.prog 23 #[.slice A0 s.length c0] w1 fun e w' => e = .returned (.int .i64 0) ∧ Below w1.heap.size w1 w' := fun w1 hB => by
    have := checkSeq23 A0 c0 s w1 (Kd.C_below hr0 hB) hc0
    rw [hseq] at this; exact this
  have hcat : ∀ w1, Below w.heap.size w w1 → Calls Try.prog 41 #[.slice A1 runs.length c1] w1 fun e w' => ∃ v0_ : Value, e = .returned (v0_) ∧ Kd.R (Kd.int .i64) 3 w' w1.heap.size (fun _ => True) v0_ fl ∧ Below w1.heap.size w1 w' := fun w1 hB =>
    slices_Concat_int_int.calls A1 c1 runs fl w1 (Kd.C_below hr1 hB) hc1 (by unfold slices_Concat_int_int.f; rw [← hfl, if_pos hl])
  have h42 : ∀ (A : Option Addr) (c : Nat) (w1 : World), Kd.C (Kd.int .i64) w1 A fl.length fl → Calls Try.prog 42 #[.int .i64 0, .int .i64 ((s.length : Int) - 1), .slice A fl.length c] w1 fun e w' => e = .returned (.bool true) ∧ Below w1.heap.size w1 w' := fun A c w1 hC => by
    have := within42 0 ((s.length : Int) - 1) A c fl w1 hC
    rw [show (!fl.any fun n => decide (n < 0) || decide ((s.length : Int) - 1 < n)) = true from hwi] at this
    exact this
  have h69 : ∀ (A : Option Addr) (c : Nat) (w1 : World), fl.length ≤ c → Sorted48 w1 w.heap.size A fl → Calls Try.prog 69 #[.slice A fl.length c, .int .i64 (s.length : Int)] w1 fun e w' => e = .returned (.bool true) ∧ Below w1.heap.size w1 w' := fun A c w1 hc hS => by
    have e : (fl.mergeSort fun x y => decide (x ≤ y)).length = fl.length := List.length_mergeSort _
    have hC := sorted_reads hl hS
    have := rack_rising.calls k A c (fl.mergeSort fun x y => decide (x ≤ y)) (s.length : Int) true w1 (by rw [e]; exact hC) (by rw [e]; exact hc) hri
    rw [e] at this
    exact this.mono fun e w' ⟨h1, h2⟩ => ⟨h1, by first | exact h2 | (obtain ⟨n, rfl⟩ := h2; exact pw_below_drewN (Below.refl _ _) n)⟩
  have H23 := Lib.hid h23; have HCAT := Lib.hid hcat; have H42 := Lib.hid h42; have H69 := Lib.hid h69; have HL := Lib.hid hl
  have hneb : ((fl.length : Int) != (s.length : Int)) = false := by simp; omega
  have hrl : ∀ l ∈ runs, l.length ≤ 1000 := fun l hl2 => Nat.le_trans (row_le_flat runs l hl2) (by rw [← hfl]; exact hl)
  have hany1 : (runs.any fun l => (l.length : Int) == 0) = false := by
    rw [List.any_eq_false]
    intro l hl2 e
    have := hno l hl2
    simp at e
    exact this (by simp [e])
  have hany2 : (runs.any fun _ => false) = false := by simp
  have h71a : ∀ w1, Below w.heap.size w w1 → Calls Try.prog 71 #[.slice A1 runs.length c1, .func (.func 70) #[] #[]] w1 fun e w' => e = .returned (.bool false) ∧ Below w1.heap.size w1 w' := fun w1 hB => by
    have := containsFunc71 70 #[] A1 c1 runs w1 (fun l => (l.length : Int) == 0) enters70 (fun A c l W hl2 _ hb hC => (none70 A c l W (hrl l hl2)).mono fun e w' ⟨h1, h2⟩ => ⟨h1, h2 ▸ hb⟩) (Kd.C_below hr1 hB)
    rw [hany1] at this; exact this
  have h71b : ∀ w1, Below w.heap.size w w1 → w1.cell? ⟨w.heap.size, 0, none⟩ = some (.slice A0 s.length c0) → Calls Try.prog 71 #[.slice A1 runs.length c1, .func (.func 72) #[] #[.pointer (some ⟨w.heap.size, 0, none⟩)]] w1 fun e w' => e = .returned (.bool false) ∧ Below w1.heap.size w1 w' := fun w1 hB hx => by
    have := containsFunc71 72 #[.pointer (some ⟨w.heap.size, 0, none⟩)] A1 c1 runs w1 (fun _ => false) enters72 (fun A c l W hl2 hc2 hb hC => (falls72 k2 A c l w.heap.size A0 c0 s true W hc2 hc0 hC (Kd.C_below (Kd.C_below hr0 hB) hb) ((hb.cell (p := ⟨w.heap.size, 0, none⟩) (World.block_lt_of_cell? _ _ hx)).trans hx) (hfa l hl2)).mono fun e w' ⟨h1, h2⟩ => ⟨h1, hb.trans (h2.mono hb.size)⟩) (Kd.C_below hr1 hB)
    rw [hany2] at this; exact this
  have H71A := Lib.hid h71a; have H71B := Lib.hid h71b
  clear h71a h71b hany1 hany2 hrl hno hfa
  clear h23 hcat h42 h69 hr0 hr1 hseq hwi hri hfl hl hne
  have hb0 : Below w.heap.size w (w.alloc (.cells #[.slice A0 s.length c0] 32)) := (Below.refl _ w).alloc (Nat.le_refl _) _
  have x0 : (w.alloc (.cells #[.slice A0 s.length c0] 32)).cell? ⟨w.heap.size, 0, none⟩ = some (.slice A0 s.length c0) := by simp [go_sem]
  have HBA := Lib.hid hb0
  have x00 := x0
  go_enter Try.func36, Try.ntmps36
  go_wp2_with (first
    | (go_at_call 23; refine (H23.out _ HBA.out).mono ?_; rintro e w1 ⟨rfl, hb1⟩; have x1 := (hb1.cell (p := ⟨w.heap.size, 0, none⟩) (by simp)).trans x00; have HB1 := Lib.hid (HBA.out.trans (hb1.mono HBA.out.size)); clear hb1)
    | (go_at_call 41; refine (HCAT.out _ HB1.out).mono ?_; rintro e w2 ⟨v2, rfl, hR2, hb2⟩; obtain ⟨A2, c2, rfl, hc2, hC2⟩ := Kd.R_reads hR2; have x2 := pw_cell_below hb2 x1; have HB2 := Lib.hid (HB1.out.trans (hb2.mono HB1.out.size)); have HR2 := Lib.hid hR2; have HC2 := Lib.hid hC2; have HSZ := Lib.hid hb2.size; have HSZ1 := HB1; clear hb2 hR2 hC2)
    | (go_at_call 42; refine (H42.out A2 c2 _ HC2.out).mono ?_; rintro e w3 ⟨rfl, hb3⟩; have x3 := pw_cell_below hb3 x2; have HR3 := Lib.hid (Kd.R_below HR2.out hb3); have HB3 := Lib.hid (HB2.out.trans (hb3.mono HB2.out.size)); have HSZ3 := Lib.hid (Nat.le_trans HSZ.out hb3.size); clear hb3)
    | (go_at_call 48; refine (sort48 A2 c2 fl w1.heap.size _ _ HSZ3.out HL.out HR3.out).mono ?_; rintro e w4 ⟨rfl, hb4, hs4⟩; have x4 : w4.cell? ⟨w.heap.size, 0, none⟩ = some (.slice A0 s.length c0) := (hb4.cell (p := ⟨w.heap.size, 0, none⟩) (by have := World.block_lt_of_cell? _ _ x1; exact this)).trans x3; have HB4 := Lib.hid (HB3.out.trans (hb4.mono HB1.out.size)); have hs4' : Sorted48 w4 w.heap.size A2 fl := (by rcases hs4 with h | ⟨g, h1, h2, h3, h4⟩; exact .inl h; exact .inr ⟨g, h1, Nat.le_trans HB1.out.size h2, h3, h4⟩); have HS4 := Lib.hid hs4'; clear hb4 hs4 hs4')
    | (go_at_call 69; refine (H69.out A2 c2 _ hc2 HS4.out).mono ?_; rintro e w5 ⟨rfl, hb5⟩; have x5 := pw_cell_below hb5 x4; have HB5 := Lib.hid (HB4.out.trans (hb5.mono HB4.out.size)); clear hb5)
    | (go_at_call 71; ((with_reducible refine (H71A.out _ HB5.out).mono ?_)); rintro e w6 ⟨rfl, hb6⟩; have x6 := pw_cell_below hb6 x5; have HB6 := Lib.hid (HB5.out.trans (hb6.mono HB5.out.size)); clear hb6)
    | (go_at_call 71; ((with_reducible refine (H71B.out _ HB6.out x6).mono ?_)); rintro e w7 ⟨rfl, hb7⟩; have HB7 := Lib.hid (HB6.out.trans (hb7.mono HB6.out.size)); clear hb7))
  go_ret2
  exact ⟨rfl, HB7.out⟩
end Go.Proofs.Ytpbemjdaanlaoaa.Pr
set_option linter.unusedVariables false
set_option linter.unusedSimpArgs false
namespace Go.Proofs.Ytpbemjdaanlaoaa.Pr
open Go.RowKit Go.Proofs.YtpbemjdaanlaoaaW.PrintWords Go.Proofs.YtpbemjdaanlaoaaW.PrintLast Go.Proofs.YtpbemjdaanlaoaaW.PrintMore
open Go.Maps
set_option maxRecDepth 100000

/-- append to a row without room: a new row. -/
theorem R_grow_step {ops : Array Oper} {o : Oper} {a : Act} {W : World} {K : Act → World → Prop} {Q : Exit → Act → World → Prop} {E : Prop}
    (hg : o.guard = none) (s x : Operand) (hop : o.op = Op.call { callee := Callee.builtin Builtin.append, args := #[s, x], argTypes := #[32, 32] })
    (Ak : Option Addr) (row : List Int) (cx : Int) (hs : a.eval s = .slice Ak row.length row.length) (hx : a.eval x = .slice (some ⟨W.heap.size, 0, none⟩) 1 1)
    (hC : Kd.C (Kd.int .i64) W Ak row.length row) (hl : row.length ≤ 1000)
    (h : ∀ v1 w1, Kd.R (Kd.int .i64) 3 w1 W.heap.size (fun q => W.heap.size ≤ q) v1 (row ++ [cx]) → Below W.heap.size W w1 → K (a.put o.dst v1) w1) :
    if Region.wanted o (yielded ops a.tmps) = true then Oper.wp Try.prog o a (W.alloc (.cells #[.int .i64 cx] 3)) K Q else E := by
  obtain ⟨i0, hi, hz0, hz1, hz2⟩ := info_parts info3
  have hCa := Kd.C_alloc hC (.cells #[.int .i64 cx] 3)
  refine step_append_grows hg s x 32 hop 3 i0 (.int .i64 0) 1 8 Try.underlying32 hi hz0 hz1 hz2 rfl (by decide) Ak row.length row.length (row.map (Value.int .i64)) hs (fun e => ?_) (by simp) (fun b e j u hj => ?_) ⟨W.heap.size, 0, none⟩ 1 1 [.int .i64 cx] hx rfl (fun j u hj => ?_) (fun u hu => by rw [List.mem_singleton.1 hu]; rfl) (by omega) (by unfold maxLen; omega) (by omega) ?_
  · rcases Nat.eq_zero_or_pos row.length with h0 | h0
    · exact ⟨h0, h0⟩
    · obtain ⟨ad, e2, _⟩ := hC.2.2 h0
      rw [e] at e2; cases e2
  · rw [List.getElem?_map] at hj
    obtain ⟨y, hy, rfl⟩ := Option.map_eq_some_iff.1 hj
    obtain ⟨hjl, rfl⟩ := List.getElem?_eq_some_iff.1 hy
    obtain ⟨ad, e2, hc⟩ := Kd.at_int hCa (j : Int) (by omega) (by omega)
    rw [e] at e2
    injection e2 with e2
    subst e2
    rw [Int.toNat_natCast, rd_get row j hjl] at hc
    exact hc
  · have hj0 : j = 0 := by
      rcases Nat.eq_zero_or_pos j with h0 | h0
      · exact h0
      · rw [List.getElem?_eq_none (by simp; omega)] at hj; cases hj
    subst hj0
    have hu : u = .int .i64 cx := by simpa using hj.symm
    subst hu
    have e9 : (⟨W.heap.size, 0, none⟩ : Addr).add 0 = ⟨W.heap.size, 0, none⟩ := by unfold Addr.add; split <;> simp_all
    rw [e9]
    simp [go_sem]
  · intro v' w' hown hgr
    have hB : Below W.heap.size W w' := ((Below.refl _ W).alloc (Nat.le_refl _) _).grown hgr (by simp) (fun k e => by cases e)
    refine h v' w' (Kd.R_lower (Kd.R_of_own (enc := Value.int .i64) (h1 := fun _ => rfl) (ok := fun q => W.heap.size ≤ q) (base := (W.alloc (.cells #[.int .i64 cx] 3)).heap.size) ?_ (fun k hk => ?_)) (by simp)) hB
    · have e : encs (Value.int .i64) (row ++ [cx]) = row.map (Value.int .i64) ++ [.int .i64 cx] := by simp [encs]
      rw [e]
      have : (row ++ [cx]).length = row.length + 1 := by simp
      rw [this]; exact hown
    · have := own_base hown k hk
      simp at this; omega

def oldOf (out : List (List Int)) (z : Int) : Int := if 0 < z then rd (rd_L1 out (z - 1)) ((rd_L1 out (z - 1)).length - 1 : Int) else -1
/-- The piles of the first k tapers: the rack, the piles, what stood before. -/
def pS (s : List Int) : Nat → List (List Int) × List (List Int) × List Int
  | 0 => ([], [], [])
  | k + 1 => ((putL (pS s k).1 (rd s (k : Int))).1, addO (pS s k).2.1 (putL (pS s k).1 (rd s (k : Int))).2.2.toNat (k : Int), (pS s k).2.2 ++ [oldOf (pS s k).2.1 (putL (pS s k).1 (rd s (k : Int))).2.2])
def pilesOk (s : List Int) (k : Nat) : Prop := 0 ≤ (putL (pS s k).1 (rd s (k : Int))).2.2 ∧ (putL (pS s k).1 (rd s (k : Int))).2.2 ≤ ((pS s k).2.1.length : Int) ∧ (0 < (putL (pS s k).1 (rd s (k : Int))).2.2 → 0 < (rd_L1 (pS s k).2.1 ((putL (pS s k).1 (rd s (k : Int))).2.2 - 1)).length)
instance (s : List Int) (k : Nat) : Decidable (pilesOk s k) := by unfold pilesOk; exact inferInstance
theorem ex_piles : ∀ k, k < 4 → pilesOk [3, 1, 2, 1] k := by decide
theorem ex_piles_at : pS [3, 1, 2, 1] 4 = ([[1, 1], [2], [3]], [[0, 1], [2, 3]], [-1, -1, 1, 1]) := by decide
end Go.Proofs.Ytpbemjdaanlaoaa.Pr
