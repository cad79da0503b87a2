import Derived.Test.YtmlahfidnfdhbaaA1
set_option linter.unusedVariables false
set_option linter.unusedSimpArgs false
namespace Go.Proofs.Ytmlahfidnfdhbaa.Pr
open Go.RowKit Go.Proofs.YtmlahfidnfdhbaaW.PrintWords Go.Proofs.YtmlahfidnfdhbaaW.PrintLast

theorem C_lit (w : World) (e b : Nat) (xs : List Int) (cs : Array Value) (hb : b = w.heap.size) (hcs : cs = (xs.map (Value.int .i64)).toArray) (hm : xs.length ≤ 9223372036854775807) :
    Kd.C (Kd.int .i64) (w.alloc (.cells cs e)) (some ⟨b, 0, none⟩) xs.length xs := by
  subst hcs hb
  obtain ⟨A, c, he, _, hC⟩ := Kd.R_reads (Kd.R_of_own (enc := Value.int .i64) (h1 := fun _ => rfl) (ok := fun _ => True) (own_lit w w.heap.size e .i64 xs (Nat.le_refl _) hm) (fun _ _ => trivial))
  injection he with h1 h2 h3
  rw [← h1] at hC
  exact hC

/-- Is an order odd? -/
def oddO (lo hi due : Int) : Bool := !within_ 1 100 [lo, hi] || decide (hi < lo) || !within_ 0 2000 [due]

theorem bcell {W w1 : World} (hb : Below W.heap.size W w1) : (∀ b o, b < W.heap.size → w1.cell? ⟨b, o, none⟩ = W.cell? ⟨b, o, none⟩) ∧ (∀ b o, b < W.heap.size → w1.frozen? ⟨b, o, none⟩ = W.frozen? ⟨b, o, none⟩) :=
  ⟨fun b o h => hb.cell (p := ⟨b, o, none⟩) h, fun b o h => hb.frozen (p := ⟨b, o, none⟩) h⟩

set_option maxHeartbeats 400000 in
theorem odd49 (lo hi due : Int) (w : World) :
    Calls Try.prog 49 #[.agg #[.int .i64 lo, .int .i64 hi, .int .i64 due]] w fun e w' => e = .returned (.bool (oddO lo hi due)) ∧ Below w.heap.size w w' := by
  have hc1 : Calls Try.prog 42 #[.int .i64 1, .int .i64 100, .slice (some ⟨w.heap.size + 1, 0, none⟩) 2 2] _ _ := within42 1 100 (some ⟨w.heap.size + 1, 0, none⟩) 2 [lo, hi] _ (C_lit (w.alloc (.cells #[.int .i64 lo, .int .i64 hi, .int .i64 due] 58)) 2 _ [lo, hi] #[.int .i64 lo, .int .i64 hi] (by simp) rfl (by simp))
  have HQ : Hid (oddO lo hi due = (!within_ 1 100 [lo, hi] || decide (hi < lo) || !within_ 0 2000 [due])) := rfl
  have HQ2 : Hid (within_ 0 2000 [due] = (!([due].any (fun n => decide (n < 0) || decide (2000 < n))))) := rfl
  have HQ1 : Hid (within_ 1 100 [lo, hi] = (!([lo, hi].any (fun n => decide (n < 1) || decide (100 < n))))) := rfl
  generalize hq1 : (!([lo, hi].any (fun n => decide (n < 1) || decide (100 < n)))) = q1 at hc1
  have Hq1 := Lib.hid hq1; clear hq1
  cases q1
  · go_enter Try.func49, Try.ntmps49
    go_wp2_with (go_at_call 42; refine hc1.mono ?_; rintro e w' ⟨rfl, hb⟩)
    go_ret
    exact ⟨ret_bool (by rw [HQ.out, HQ1.out, Hq1.out]; rfl), ((Below.refl _ _).alloc (Nat.le_refl _) _ |>.alloc (by simp) _).trans (hb.mono (by simp; omega))⟩
  · by_cases c2 : hi < lo
    · go_enter Try.func49, Try.ntmps49
      go_wp2_with (go_at_call 42; refine hc1.mono ?_; rintro e w' ⟨rfl, hb⟩; obtain ⟨hcl, hfr⟩ := bcell hb)
      go_ret
      exact ⟨ret_bool (by rw [HQ.out, HQ1.out, Hq1.out]; simp [c2]), ((Below.refl _ _).alloc (Nat.le_refl _) _ |>.alloc (by simp) _).trans (hb.mono (by simp; omega))⟩
    · have c2' : decide (hi < lo) = false := by simpa using c2
      have C2 := Lib.hid c2
      go_enter Try.func49, Try.ntmps49
      go_wp2_with (go_at_call 42; refine hc1.mono ?_; clear hc1; rintro e w' ⟨rfl, hb⟩; obtain ⟨hcl, hfr⟩ := bcell hb)
      have hc2 : Calls Try.prog 42 #[.int .i64 0, .int .i64 2000, .slice (some ⟨w'.heap.size, 0, none⟩) 1 1] _ _ := within42 0 2000 (some ⟨w'.heap.size, 0, none⟩) 1 [due] _ (C_lit w' 2 _ [due] #[.int .i64 due] rfl rfl (by simp))
      go_wp2_with (go_at_call 42; refine hc2.mono ?_; rintro e w2 ⟨rfl, hb2⟩)
      go_ret
      exact ⟨ret_bool (by rw [HQ.out, HQ1.out, HQ2.out, Hq1.out]; simp; intro h; have := C2.out; omega), (((Below.refl _ _).alloc (Nat.le_refl _) _ |>.alloc (by simp) _).trans (hb.mono (by simp; omega))).trans (((Below.refl _ w').alloc (by have := hb.size; simp at this; omega) _).trans (hb2.mono (by have := hb.size; simp at this ⊢; omega)))⟩

theorem enters49 : EntersF 49 := fun _ _ => by kernel_rfl
theorem rdT_get (l : List S58) (k : Nat) (hk : k < l.length) : rd_T58 l k = l[k] := by simp [rd_T58, List.getElem?_eq_getElem hk]

set_option maxHeartbeats 400000 in
theorem indexFunc72 (g : Nat) (caps : Array Value) (A : Option Addr) (c : Nat) (l : List S58) (w : World) (p : S58 → Bool)
    (hg0 : EntersF g)
    (hp : ∀ (x : S58) W, Below w.heap.size w W → Calls Try.prog g (#[.agg #[.int .i64 x.f0.f0, .int .i64 x.f0.f1, .int .i64 x.f1]] ++ caps) W fun e W' => e = .returned (.bool (p x)) ∧ Below w.heap.size w W')
    (hr : Kd.C k58 w A l.length l) :
    Calls Try.prog 72 #[.slice A l.length c, .func (.func g) #[] caps] w fun e w' => e = .returned (.int .i64 (idxI p l)) ∧ Below w.heap.size w w' := by
  have hg : ∀ (xs : Array Value) (W : World), (callFunc g xs).run Try.prog W = .ok (.enter g xs) W := hg0
  have hu56 := Try.underlying56
  have hu58 := Try.underlying58
  go_enter Try.func72, Try.ntmps72
  go_wp2
  have hlen : l.length ≤ 9223372036854775807 := hr.2.1
  go_loopw [8] (fun i wr => ∃ k : Nat, k ≤ l.length ∧ i = .int .i64 k ∧ Below w.heap.size w wr ∧ ∀ j, j < k → p (rd_T58 l j) = false) (fun i _ => l.length - (intOf i).toNat)
  case atStart => exact ⟨0, Nat.zero_le _, rfl, Below.refl _ _, fun j hj => absurd hj (Nat.not_lt_zero j)⟩
  case round =>
    obtain ⟨k, hk, rfl, hb, hno⟩ := hrel
    have Hno := Lib.hid hno; clear hno
    by_cases hlt : k < l.length
    · obtain ⟨ad, rfl, h1, h2, h3⟩ := at_T58 (Kd.C_below hr hb) k (by omega) (by omega)
      simp only [Int.toNat_natCast] at h1 h2 h3
      have hpk := hp (rd_T58 l k) wr hb
      clear hp
      generalize hpp : p (rd_T58 l k) = q at hpk
      have Hpp := Lib.hid hpp; clear hpp
      cases q
      all_goals go_wp2_with ((with_reducible refine hpk.mono ?_); rintro e W' ⟨rfl, hb2⟩)
      · go_roundw
        case rel =>
          refine ⟨k + 1, by omega, by go_num, hb2, fun j hj => ?_⟩
          rcases Nat.lt_or_ge j k with h | h
          · exact Hno.out j h
          · obtain rfl : j = k := by omega
            exact Hpp.out
        case measure => simp [intOf]; omega
      · go_ret
        exact ⟨ret_int (idxI_at p l k hlt (by rw [← rdT_get l k hlt]; exact Hpp.out) (fun j hj => by rw [← rdT_get l j (by omega)]; exact Hno.out j hj)).symm, hb2⟩
    · go_wp2
      go_ret
      exact ⟨ret_int (idxI_neg p l (fun x hx => by obtain ⟨j, hj, rfl⟩ := List.mem_iff_getElem.1 hx; rw [← rdT_get l j hj]; exact Hno.out j (by omega))).symm, hb⟩

set_option maxHeartbeats 400000 in
theorem containsFunc50 (g : Nat) (caps : Array Value) (A : Option Addr) (c : Nat) (l : List S58) (w : World) (p : S58 → Bool)
    (hg0 : EntersF g)
    (hp : ∀ (x : S58) W, Below w.heap.size w W → Calls Try.prog g (#[.agg #[.int .i64 x.f0.f0, .int .i64 x.f0.f1, .int .i64 x.f1]] ++ caps) W fun e W' => e = .returned (.bool (p x)) ∧ Below w.heap.size w W')
    (hr : Kd.C k58 w A l.length l) :
    Calls Try.prog 50 #[.slice A l.length c, .func (.func g) #[] caps] w fun e w' => e = .returned (.bool (l.any p)) ∧ Below w.heap.size w w' := by
  have hc := indexFunc72 g caps A c l w p hg0 hp hr
  clear hp
  go_enter Try.func50, Try.ntmps50
  go_wp2_with (go_at_call 72; refine hc.mono ?_; rintro e w' ⟨rfl, hb⟩)
  go_ret
  exact ⟨ret_bool (idxI_any p l), hb⟩

def late_CheckOrders.f (l0 : List S58) : Option Int := some (if 10 < l0.length then 6 else if l0.any (fun x => oddO x.f0.f0 x.f0.f1 x.f1) then 3 else 0)

set_option maxHeartbeats 400000 in
theorem late_CheckOrders.calls (A0 : Option Addr) (c0 : Nat) (l0 : List (S58)) (r : Int) (w : World) (hr0 : Kd.C k58 w A0 l0.length l0) (hc0 : l0.length ≤ c0) (h : late_CheckOrders.f l0 = some r) :
    Calls Try.prog 14 #[.slice A0 l0.length c0] w fun e w' => e = .returned (.int .i64 r) ∧ Below w.heap.size w w' := by
  have hlen : l0.length ≤ 9223372036854775807 := hr0.2.1
  have hc := containsFunc50 49 #[] A0 c0 l0 w (fun x => oddO x.f0.f0 x.f0.f1 x.f1) enters49
    (fun x W hb => (odd49 x.f0.f0 x.f0.f1 x.f1 W).mono fun e W' ⟨he, hw⟩ => ⟨he, hb.trans (hw.mono hb.size)⟩) hr0
  unfold late_CheckOrders.f at h
  injection h with h
  by_cases c1 : 10 < l0.length
  · rw [if_pos c1] at h
    subst h
    clear hc
    go_enter Try.func14, Try.ntmps14
    go_wp2
    go_ret
    exact ⟨rfl, Below.refl _ _⟩
  · rw [if_neg c1] at h
    have H := Lib.hid h; clear h
    generalize hq : l0.any (fun x => oddO x.f0.f0 x.f0.f1 x.f1) = q at hc
    have Hq := Lib.hid hq; clear hq
    cases q
    all_goals
      go_enter Try.func14, Try.ntmps14
      go_wp2_with (go_at_call 50; refine hc.mono ?_; rintro e w' ⟨rfl, hb⟩)
      go_ret
      exact ⟨ret_int (by rw [← H.out, Hq.out]; rfl), hb⟩

end Go.Proofs.Ytmlahfidnfdhbaa.Pr
