/- Lemmas for the laws of rack: A1, A2, A3, A4, A5, A6, A7, A8. -/
import Derived.Test.YtpbemjdaanlaoaaPr1
import Derived.Test.YtpbemjdaanlaoaaPr0
import Derived.WalkKit
import Derived.WalkSpells
import Derived.WalkLawsBesides
import Derived.Lib.Hide
import Derived.BigRegion
import Derived.Deep.AppendLies
import Derived.StillTailTactics
import Derived.Deep.RegionLaw
import Derived.WalkMore
import Derived.WideKeyArgs
import Derived.DeepKeys4
import Derived.MapViews
import Derived.Maps.OwnSet
import Derived.Maps.OwnOps
import Derived.Lib.SliceRun
import Derived.Deep.RegionHeld3
set_option linter.unusedVariables false
set_option linter.unusedSimpArgs false
set_option linter.unusedVariables false
set_option linter.unusedSimpArgs false
namespace Go.Proofs.Ytpbemjdaanlaoaa.Pr
open Go.RowKit Go.Proofs.YtpbemjdaanlaoaaW.PrintWords Go.Proofs.YtpbemjdaanlaoaaW.PrintLast

/-- The index of the first element that is p; -1 if none is. -/
def idxI {α : Type} (p : α → Bool) (l : List α) : Int := match l.findIdx? p with | some i => (i : Int) | none => -1
theorem idxI_neg {α : Type} (p : α → Bool) (l : List α) (h : ∀ x ∈ l, p x = false) : idxI p l = -1 := by
  unfold idxI
  rw [List.findIdx?_eq_none_iff.2 h]
theorem idxI_at {α : Type} (p : α → Bool) (l : List α) (k : Nat) (hk : k < l.length) (h : p l[k] = true) (h2 : ∀ j, (hj : j < k) → p (l[j]'(by omega)) = false) : idxI p l = k := by
  unfold idxI
  have : l.findIdx? p = some k := by
    rw [List.findIdx?_eq_some_iff_getElem]
    exact ⟨hk, h, fun j hj => by simpa using h2 j hj⟩
  rw [this]
theorem idxI_any {α : Type} (p : α → Bool) (l : List α) : decide (0 ≤ idxI p l) = l.any p := by
  unfold idxI
  cases h : l.findIdx? p with
  | none => rw [List.findIdx?_eq_none_iff] at h; symm; simpa using h
  | some i =>
    rw [List.findIdx?_eq_some_iff_getElem] at h
    obtain ⟨hi, h1, _⟩ := h
    symm
    simp only [Int.natCast_nonneg, decide_true, List.any_eq_true]
    exact ⟨_, List.getElem_mem hi, h1⟩
theorem ret_int {k : IntKind} {a b : Int} (h : a = b) : Ending.returned (.int k a) = .returned (.int k b) := by rw [h]
theorem ret_bool {a b : Bool} (h : a = b) : Ending.returned (.bool a) = .returned (.bool b) := by rw [h]
theorem rd_get (l : List Int) (k : Nat) (hk : k < l.length) : rd l k = l[k] := by simp [rd, List.getElem?_eq_getElem hk]

set_option maxHeartbeats 400000 in
theorem within1_any (n lo hi : Int) (p1 p2 : Addr) (w : World) (h1 : w.cell? p1 = some (.int .i64 lo)) (h2 : w.cell? p2 = some (.int .i64 hi)) :
    Calls Try.prog 78 #[.int .i64 n, .pointer (some p1), .pointer (some p2)] w fun e w' => e = .returned (.bool (decide (n < lo) || decide (hi < n))) ∧ w = w' := by
  by_cases c1 : n < lo
  · go_enter Try.func78, Try.ntmps78
    go_wp2
    go_ret
    exact ⟨by simp [c1], rfl⟩
  · go_enter Try.func78, Try.ntmps78
    go_wp2
    go_ret
    exact ⟨by by_cases c2 : hi < n <;> simp [c1, c2] , rfl⟩

def EntersF (g : Nat) : Prop := ∀ (xs : Array Value) (W : World), (callFunc g xs).run Try.prog W = .ok (.enter g xs) W

set_option maxHeartbeats 400000 in
theorem indexFunc90 (g : Nat) (caps : Array Value) (A : Option Addr) (c : Nat) (l : List Int) (w : World) (p : Int → Bool)
    (hg0 : EntersF g)
    (hp : ∀ x W, Below w.heap.size w W → Calls Try.prog g (#[.int .i64 x] ++ caps) W fun e W' => e = .returned (.bool (p x)) ∧ Below w.heap.size w W')
    (hr : Kd.C (Kd.int .i64) w A l.length l) :
    Calls Try.prog 90 #[.slice A l.length c, .func (.func g) #[] caps] w fun e w' => e = .returned (.int .i64 (idxI p l)) ∧ Below w.heap.size w w' := by
  have hg : ∀ (xs : Array Value) (W : World), (callFunc g xs).run Try.prog W = .ok (.enter g xs) W := hg0
  go_enter Try.func90, Try.ntmps90
  go_wp2
  have hlen : l.length ≤ 9223372036854775807 := hr.2.1
  go_loopw [8] (fun i wr => ∃ k : Nat, k ≤ l.length ∧ i = .int .i64 k ∧ Below w.heap.size w wr ∧ ∀ j, j < k → p (rd l j) = false) (fun i _ => l.length - (intOf i).toNat)
  case atStart => exact ⟨0, Nat.zero_le _, rfl, Below.refl _ _, fun j hj => absurd hj (Nat.not_lt_zero j)⟩
  case round =>
    obtain ⟨k, hk, rfl, hb, hno⟩ := hrel
    have Hno := Lib.hid hno; clear hno
    by_cases hlt : k < l.length
    · obtain ⟨ad, rfl, hcell⟩ := Kd.at_int hr k (by omega) (by omega)
      have hcell2 : wr.cell? (ad.add k) = some (.int .i64 (rd l k)) := by simpa using pw_cell_below hb hcell
      have hpk := hp (rd l k) wr hb
      clear hcell hp
      generalize hpp : p (rd l k) = q at hpk
      have Hpp := Lib.hid hpp; clear hpp
      cases q
      all_goals go_wp2_with ((with_reducible refine hpk.mono ?_); rintro e W' ⟨rfl, hb2⟩)
      · go_roundw
        case rel =>
          refine ⟨k + 1, by omega, by go_num, hb2, fun j hj => ?_⟩
          rcases Nat.lt_or_ge j k with h | h
          · exact Hno.out j h
          · obtain rfl : j = k := by omega
            exact Hpp.out
        case measure => simp [intOf]; omega
      · go_ret
        exact ⟨ret_int (idxI_at p l k hlt (by rw [← rd_get l k hlt]; exact Hpp.out) (fun j hj => by rw [← rd_get l j (by omega)]; exact Hno.out j hj)).symm, hb2⟩
    · go_wp2
      go_ret
      exact ⟨ret_int (idxI_neg p l (fun x hx => by obtain ⟨j, hj, rfl⟩ := List.mem_iff_getElem.1 hx; rw [← rd_get l j hj]; exact Hno.out j (by omega))).symm, hb⟩

set_option maxHeartbeats 400000 in
theorem containsFunc77 (g : Nat) (caps : Array Value) (A : Option Addr) (c : Nat) (l : List Int) (w : World) (p : Int → Bool)
    (hg0 : EntersF g)
    (hp : ∀ x W, Below w.heap.size w W → Calls Try.prog g (#[.int .i64 x] ++ caps) W fun e W' => e = .returned (.bool (p x)) ∧ Below w.heap.size w W')
    (hr : Kd.C (Kd.int .i64) w A l.length l) :
    Calls Try.prog 77 #[.slice A l.length c, .func (.func g) #[] caps] w fun e w' => e = .returned (.bool (l.any p)) ∧ Below w.heap.size w w' := by
  have hc := indexFunc90 g caps A c l w p hg0 hp hr
  clear hp
  go_enter Try.func77, Try.ntmps77
  go_wp2_with (go_at_call 90; refine hc.mono ?_; rintro e w' ⟨rfl, hb⟩)
  go_ret
  exact ⟨ret_bool (idxI_any p l), hb⟩

theorem enters78 : EntersF 78 := fun _ _ => by kernel_rfl

set_option maxHeartbeats 400000 in
theorem within42 (lo hi : Int) (A : Option Addr) (c : Nat) (l : List Int) (w : World) (hr : Kd.C (Kd.int .i64) w A l.length l) :
    Calls Try.prog 42 #[.int .i64 lo, .int .i64 hi, .slice A l.length c] w fun e w' => e = .returned (.bool (!l.any (fun n => decide (n < lo) || decide (hi < n)))) ∧ Below w.heap.size w w' := by
  have hc := containsFunc77 78 #[.pointer (some ⟨w.heap.size, 0, none⟩), .pointer (some ⟨w.heap.size + 1, 0, none⟩)] A c l ((w.alloc (.cells #[.int .i64 lo] 3)).alloc (.cells #[.int .i64 hi] 3)) (fun n => decide (n < lo) || decide (hi < n)) enters78
    (fun x W hb => (within1_any x lo hi _ _ W ((hb.cell (p := ⟨w.heap.size, 0, none⟩) (by simp; omega)).trans (by go_simp)) ((hb.cell (p := ⟨w.heap.size + 1, 0, none⟩) (by simp)).trans (by go_simp))).mono fun e W' ⟨he, hw⟩ => ⟨he, hw ▸ hb⟩)
    (Kd.C_alloc (Kd.C_alloc hr _) _)
  go_enter Try.func42, Try.ntmps42
  go_wp2_with (go_at_call 77; refine hc.mono ?_; rintro e w' ⟨rfl, hb⟩)
  go_ret
  exact ⟨rfl, (((Below.refl _ w).alloc (Nat.le_refl _) _).alloc (by simp) _).trans (hb.mono (by simp; omega))⟩

def within_ (lo hi : Int) (l : List Int) : Bool := !l.any (fun n => decide (n < lo) || decide (hi < n))
def rack_within.f (a0 : Int) (a1 : Int) (l2 : List Int) : Option (Bool) := some (within_ a0 a1 l2)
theorem rack_within.calls (a0 : Int) (a1 : Int) (A2 : Option Addr) (c2 : Nat) (l2 : List Int) (r : Bool) (w : World) (hr2 : Kd.C (Kd.int .i64) w A2 l2.length l2) (hc2 : l2.length ≤ c2) (h : rack_within.f a0 a1 l2 = some r) :
    Calls Try.prog 42 #[.int .i64 a0, .int .i64 a1, .slice A2 l2.length c2] w fun e w' => e = .returned (.bool r) ∧ Below w.heap.size w w' := by
  injection h with h
  subst h
  exact within42 a0 a1 A2 c2 l2 w hr2

end Go.Proofs.Ytpbemjdaanlaoaa.Pr
set_option linter.unusedVariables false
set_option linter.unusedSimpArgs false
namespace Go.Proofs.Ytpbemjdaanlaoaa.Pr
open Go.RowKit Go.Proofs.YtpbemjdaanlaoaaW.PrintWords Go.Proofs.YtpbemjdaanlaoaaW.PrintLast Go.Proofs.YtpbemjdaanlaoaaW.PrintMore
set_option maxRecDepth 100000

theorem rdL_get (l : List (List Int)) (k : Nat) (hk : k < l.length) : rd_L1 l (k : Int) = l[k] := by simp [rd_L1, List.getD_eq_getElem?_getD, List.getElem?_eq_getElem hk]
/-- A row of numbers, of the call's own. -/
abbrev RI (w : World) (base : Nat) (v : Value) (xs : List Int) : Prop := Kd.R (Kd.int .i64) 3 w base (fun _ => True) v xs

set_option maxHeartbeats 1000000 in
theorem grow76 (n : Nat) (hn : n ≤ 1000) (w : World) :
    Calls Try.prog 76 #[.slice none 0 0, .int .i64 (n : Int)] w fun e w' => ∃ v, e = .returned v ∧ RI w' w.heap.size v [] ∧ Below w.heap.size w w' := by
  have hu32 := Try.underlying32
  by_cases h0 : n = 0
  · subst h0
    go_enter Try.func76, Try.ntmps76
    go_wp2
    go_ret
    exact ⟨_, rfl, Kd.R_nil _ _ _ _ _, Below.refl _ _⟩
  · have hpos : 0 < (n : Int) := by omega
    go_enter Try.func76, Try.ntmps76
    go_wp2_with (((with_reducible refine gate_builtin (b := .append) (xs := #[.tmp 20, .tmp 21]) rfl ?_); at_builtin; refine Kd.R_append_zeros (Kd.int .i64) (w0 := w) w.heap.size rfl _ _ 32 3 3 (.int .i64 0) 8 rfl Try.underlying32 Try.underlying3 info3 rfl (by decide) (by omega) (.slice none 0 0) [] 0 (n : Int) (fun _ => True) rfl rfl rfl (fun _ _ => trivial) (Kd.R_nil _ _ _ _ _) (by omega) (Below.refl _ _) (Nat.le_refl _) (by simp; omega) ?_; intro v1 w1 hr hb hg hat; obtain ⟨g, cap, rfl, hg0, hg1, _⟩ := Kd.R_form hr (by simp; omega); have hle := (Kd.R_reads' hr).2.1; have HR := Lib.hid hr; have HB := Lib.hid hb; clear hr hb hg hat))
    go_ret
    exact ⟨_, rfl, Kd.R_take (m := 0) HR.out (Nat.zero_le _), HB.out⟩

/-- The numbers of the first rows. -/
def flatK (rows : List (List Int)) (k : Nat) : List Int := (rows.take k).flatten
theorem flat_succ (rows : List (List Int)) (k : Nat) (hk : k < rows.length) : flatK rows (k + 1) = flatK rows k ++ rd_L1 rows (k : Int) := by
  unfold flatK
  rw [List.take_succ_eq_append_getElem hk, List.flatten_append, rdL_get rows k hk]; simp
theorem flat_all (rows : List (List Int)) : flatK rows rows.length = rows.flatten := by unfold flatK; rw [List.take_length]
theorem flat_le (rows : List (List Int)) (k : Nat) : (flatK rows k).length ≤ rows.flatten.length := by
  unfold flatK
  conv => rhs; rw [← List.take_append_drop k rows, List.flatten_append, List.length_append]
  omega
def slices_Concat_int_int.f (l0 : List (List Int)) : Option (List Int) := if l0.flatten.length ≤ 1000 then some l0.flatten else none
set_option maxHeartbeats 2000000 in
theorem slices_Concat_int_int.calls (A0 : Option Addr) (c0 : Nat) (l0 : List (List Int)) (r : List Int) (w : World) (hr0 : Kd.C (Kd.slice 3 (Kd.int .i64)) w A0 l0.length l0) (hc0 : l0.length ≤ c0) (h : slices_Concat_int_int.f l0 = some r) :
    Calls Try.prog 41 #[.slice A0 l0.length c0] w fun e w' => ∃ v0_ : Value, e = .returned (v0_) ∧ Kd.R (Kd.int .i64) 3 w' w.heap.size (fun _ => True) v0_ r ∧ Below w.heap.size w w' := by
  have hu32 := Try.underlying32
  have hlen : l0.length ≤ 9223372036854775807 := hr0.2.1
  unfold slices_Concat_int_int.f at h
  have h1 : l0.flatten.length ≤ 1000 := by
    by_cases hh : l0.flatten.length ≤ 1000
    · exact hh
    · rw [if_neg hh] at h; cases h
  rw [if_pos h1] at h
  injection h with h
  subst h
  rw [← flat_all l0] at h1 ⊢
  have H1 := Lib.hid h1; clear h1
  have hf1 := flat_le l0
  rw [← flat_all l0] at hf1
  have HF := Lib.hid hf1; clear hf1
  have HS := Lib.hid (flat_succ l0)
  go_enter Try.func41, Try.ntmps41
  go_wp2
  go_loopw [3, 11] (fun s i wr => ∃ k : Nat, k ≤ l0.length ∧ i = .int .i64 k ∧ s = .int .i64 (((flatK l0 k).length : Nat) : Int) ∧ w = wr) (fun _ i _ => l0.length - (intOf i).toNat)
  case atStart => exact ⟨0, Nat.zero_le _, rfl, rfl, rfl⟩
  case round =>
    obtain ⟨k, hk, rfl, rfl, rfl⟩ := hrel
    by_cases hlt : k < l0.length
    · obtain ⟨ad, A1, c1, rfl, q1, q2, q3⟩ := at_L1 hr0 k (by omega) (by omega)
      simp only [Int.toNat_natCast] at q1
      have e1 := HS.out k hlt
      have e2 := HF.out (k + 1)
      have e3 : (flatK l0 (k + 1)).length = (flatK l0 k).length + (rd_L1 l0 k).length := by rw [e1, List.length_append]
      have e4 := H1.out
      have E3 := Lib.hid e3
      have hn1 : ¬ (((flatK l0 k).length : Nat) : Int) + (((rd_L1 l0 k).length : Nat) : Int) < 0 := by omega
      have hw : wrap64 ((((flatK l0 k).length : Nat) : Int) + (((rd_L1 l0 k).length : Nat) : Int)) = (((flatK l0 k).length : Nat) : Int) + (((rd_L1 l0 k).length : Nat) : Int) := by unfold wrap64; omega
      clear e1 e2 e3 e4
      go_wp2
      refine ⟨⟨k + 1, by omega, by go_num, ?_, trivial⟩, by simp [intOf]; omega⟩
      rw [E3.out]
      exact congrArg _ hw
    · obtain rfl : k = l0.length := by omega
      have H1o := H1.out
      go_wp2_with (go_at_call 76; refine (grow76 (flatK l0 l0.length).length H1o w).mono ?_; rintro e w1 ⟨v1, rfl, hR, hb⟩; have HR := Lib.hid hR; have HB := Lib.hid hb; clear hR hb)
      go_loopw [6, 27] (fun v i wr => ∃ k : Nat, k ≤ l0.length ∧ i = .int .i64 k ∧ Hid (RI wr w.heap.size v (flatK l0 k)) ∧ Hid (Below w.heap.size w wr)) (fun _ i _ => l0.length - (intOf i).toNat)
      case atStart => exact ⟨0, Nat.zero_le _, rfl, HR, HB⟩
      case round =>
        obtain ⟨k, hk, rfl, HRk, HBk⟩ := hrel
        by_cases hlt : k < l0.length
        · obtain ⟨ad, A1, c1, rfl, q1, q2, q3⟩ := at_L1 (Kd.C_below hr0 HBk.out) k (by omega) (by omega)
          simp only [Int.toNat_natCast] at q1
          have e1 := HS.out k hlt
          have e2 := HF.out (k + 1)
          have e3 : (flatK l0 (k + 1)).length = (flatK l0 k).length + (rd_L1 l0 k).length := by rw [e1, List.length_append]
          have E1 := Lib.hid e1; have E3 := Lib.hid e3; have Q3 := Lib.hid q3
          have hbd : ((flatK l0 k).length + (rd_L1 l0 k).length) * 8 ≤ 140737488355328 := by have := H1.out; omega
          clear e1 e2 e3 q3
          go_wp2_with (((with_reducible refine gate_builtin (b := .append) (xs := #[.tmp 31, .tmp 32]) rfl ?_); at_builtin; refine Kd.R_append_rows (Kd.int .i64) (Rr := (Kd.int .i64).K wr) (w0 := w) w.heap.size rfl _ _ 32 3 (.int .i64 0) 8 rfl Try.underlying32 info3 rfl (by decide) (by omega) u6 (flatK l0 k) (rd_L1 l0 k) A1 (rd_L1 l0 k).length c1 (fun _ => True) (fun _ => False) rfl rfl HRk.out Q3.out (fun _ _ h => h) (fun _ h => h.elim) (fun _ _ => trivial) HBk.out HBk.out.size hbd ?_; intro v2 w2 hr2 hb2 hg2 hat2; rw [← E1.out] at hr2; have HR2 := Lib.hid hr2; have HB2 := Lib.hid hb2; clear hr2 hb2 hg2 hat2))
          exact ⟨⟨k + 1, by omega, by go_num, HR2, HB2⟩, by simp [intOf]; omega⟩
        · obtain rfl : k = l0.length := by omega
          go_wp2
          go_ret
          exact ⟨_, rfl, HRk.out, HBk.out⟩
end Go.Proofs.Ytpbemjdaanlaoaa.Pr
set_option linter.unusedVariables false
set_option linter.unusedSimpArgs false
namespace Go.Proofs.Ytpbemjdaanlaoaa.Pr
open Go.RowKit Go.Proofs.YtpbemjdaanlaoaaW.PrintWords Go.Proofs.YtpbemjdaanlaoaaW.PrintLast Go.Proofs.YtpbemjdaanlaoaaW.PrintMore
open Go.Maps
set_option maxRecDepth 100000

theorem R_lits (w : World) (e : Nat) (xs : List Int) (hm : xs.length ≤ 9223372036854775807) : Kd.R (Kd.int .i64) e (w.alloc (.cells (xs.map (Value.int .i64)).toArray e)) w.heap.size (fun _ => True) (.slice (some ⟨w.heap.size, 0, none⟩) xs.length xs.length) xs :=
  Kd.R_of_own (enc := Value.int .i64) (h1 := fun _ => rfl) (ok := fun _ => True) (own_lit w w.heap.size e .i64 xs (Nat.le_refl _) hm) (fun _ _ => trivial)
set_option maxHeartbeats 1000000 in
theorem clone79 (A : Option Addr) (c : Nat) (xs : List Int) (hl : xs.length ≤ 1000) (w : World) (hr : Kd.C (Kd.int .i64) w A xs.length xs) :
    Calls Try.prog 79 #[.slice A xs.length c] w fun e w' => ∃ v, e = .returned v ∧ RI w' w.heap.size v xs ∧ Below w.heap.size w w' := by
  have hu32 := Try.underlying32
  have HR := Lib.hid hr; clear hr
  have q32 := fun (w : World) (a : Option Addr) (n c n' c' : Nat) => Lib.run_eql_slice_nil w 32 3 a n c n' c' Try.underlying32
  cases A with
  | none =>
    have h0 : xs = [] := by
      cases xs with
      | nil => rfl
      | cons a r => obtain ⟨ad, h, _⟩ := HR.out.2.2 (by simp); cases h
    subst h0
    go_enter Try.func79, Try.ntmps79
    go_wp2
    go_ret
    exact ⟨_, rfl, Kd.R_nil _ _ _ _ _, Below.refl _ _⟩
  | some ad =>
    have hR0 : RI (w.alloc (.cells #[] 3)) w.heap.size (.slice (some ⟨w.heap.size, 0, none⟩) 0 0) [] := R_lits w 3 [] (by simp)
    have HR0 := Lib.hid hR0; clear hR0
    go_enter Try.func79, Try.ntmps79
    go_wp2_with (((with_reducible refine gate_builtin (b := .append) (xs := #[.tmp 5, .tmp 6]) rfl ?_); at_builtin; refine Kd.R_append_rows (Kd.int .i64) (Rr := (Kd.int .i64).K w) (w0 := w) w.heap.size rfl _ _ 32 3 (.int .i64 0) 8 rfl Try.underlying32 info3 rfl (by decide) (by omega) _ [] xs (some ad) xs.length c (fun _ => True) (fun _ => False) rfl rfl HR0.out (Kd.C_alloc HR.out _) (fun _ _ h => h) (fun _ h => h.elim) (fun _ _ => trivial) ((Below.refl _ _).alloc (Nat.le_refl _) _) (by simp) (by simp; omega) ?_; intro v2 w2 hr2 hb2 hg2 hat2; have HR2 := Lib.hid hr2; have HB2 := Lib.hid hb2; clear hr2 hb2 hg2 hat2))
    go_ret
    exact ⟨_, rfl, HR2.out, HB2.out⟩
end Go.Proofs.Ytpbemjdaanlaoaa.Pr
set_option linter.unusedVariables false
set_option linter.unusedSimpArgs false
namespace Go.Proofs.Ytpbemjdaanlaoaa.Pr
open Go.RowKit Go.Proofs.YtpbemjdaanlaoaaW.PrintWords Go.Proofs.YtpbemjdaanlaoaaW.PrintLast Go.Proofs.YtpbemjdaanlaoaaW.PrintMore
open Go.Maps
set_option maxRecDepth 100000

theorem laid90 : laidOutB Try.prog = true := by kernel_rfl
theorem row90 : (90 : TypeId) < Try.prog.types.size := of_decide_eq_true (by kernel_rfl)
theorem wide90 : (match Try.prog.underlying 90 with | some (.array _ _) | some (.struct _) => true | _ => false) = true := by rw [Try.underlying90]
theorem at90 : Try.prog.keyTypeAt 2 90 = true := by kernel_rfl
theorem law90 : Keyed Try.prog 90 := Keyed.of_law (deep_law_laid laid90 (m := 2) (by omega) row90 at90 wide90)
theorem zero3 (w : World) : (zeroValue 3).run Try.prog w = .ok (.int .i64 0) w := by kernel_rfl
theorem keyType90 : Try.prog.keyType 90 = true := by kernel_rfl
theorem cells90 : Try.prog.cellsOf 90 = 2 := by kernel_rfl
theorem cells3 : Try.prog.cellsOf 3 = 1 := by kernel_rfl
theorem hkp (a b : Int) (ha : (Lit.int .i64 a).wf = true) (hb : (Lit.int .i64 b).wf = true) : ∃ q, keyOf Try.prog 90 (.agg #[.int .i64 a, .int .i64 b]) = some q := by
  have e : ∃ n, Try.prog.types.size + 1 = n + 1 + 1 := ⟨_, rfl⟩
  obtain ⟨n, e⟩ := e
  unfold keyOf
  rw [Try.underlying90, e]
  simp only [keyType90, Bool.true_and, Value.formed, Try.underlying90, cells90]
  simp [Program.keyLits, Try.underlying90, Try.underlying3, cells90, cells3, Value.cells, ha, hb]
/-- A place's key. -/
noncomputable def kp (a b : Int) : Lit := (keyOf Try.prog 90 (.agg #[.int .i64 a, .int .i64 b])).getD (.bool false)
def wfi (a : Int) : Prop := (Lit.int .i64 a).wf = true
theorem wfi_of {a : Int} (h : -9223372036854775808 ≤ a ∧ a ≤ 9223372036854775807) : wfi a := WalkArith.wf_i64 (by omega)
theorem kp_key {a b : Int} (ha : wfi a) (hb : wfi b) : keyOf Try.prog 90 (.agg #[.int .i64 a, .int .i64 b]) = some (kp a b) := by
  obtain ⟨q, hq⟩ := hkp a b ha hb
  unfold kp
  rw [hq]; rfl
theorem kp_inj {a b c d : Int} (ha : wfi a) (hb : wfi b) (hc : wfi c) (hd : wfi d) (h : kp a b = kp c d) : a = c ∧ b = d := by
  have h1 := kp_key ha hb
  have h2 := kp_key hc hd
  rw [← h] at h2
  have h3 := law90.inj h1 h2
  clear h1 h2 h
  simp only [Value.agg.injEq, Array.mk.injEq, List.cons.injEq, Value.int.injEq, true_and, and_true] at h3
  exact h3
theorem kp_lit {a b : Int} (ha : wfi a) (hb : wfi b) : WideAt.IsKeyLit (kp a b) := law90.key (kp_key ha hb)
/-- What a map of places reads as. -/
def HasP (D : DataW Unit) (f : Int → Int → Option Int) : Prop := ∀ a b, wfi a → wfi b → Maps.has D (kp a b) = (f a b).isSome ∧ ∀ z, D.atKey (kp a b) z = match f a b with | some n => .lit (.int .i64 n) | none => z
theorem HasP.nil : HasP (.map []) (fun _ _ => none) := fun a b _ _ => ⟨by simp [Maps.has], fun z => by simp [DataW.atKey]⟩
def putF (f : Int → Int → Option Int) (a b x : Int) (c d : Int) : Option Int := if c = a ∧ d = b then some x else f c d
theorem HasP.put {D : DataW Unit} {f : Int → Int → Option Int} (h : HasP D f) (hD : IsMap D) {a b : Int} (x : Int) (ha : wfi a) (hb : wfi b) : HasP (D.put (kp a b) (.lit (.int .i64 x))) (putF f a b x) := by
  intro c d hc hd
  by_cases e : c = a ∧ d = b
  · obtain ⟨rfl, rfl⟩ := e
    have e1 : putF f c d x c d = some x := if_pos ⟨rfl, rfl⟩
    rw [e1]
    exact ⟨by rw [has_put_same hD (kp_lit ha hb)]; rfl, fun z => atKey_put_same hD (kp_lit ha hb) _ _⟩
  · have hq : kp c d ≠ kp a b := fun e2 => e (kp_inj hc hd ha hb e2)
    have e1 : putF f a b x c d = f c d := if_neg e
    rw [e1]
    exact ⟨by rw [has_put_other hq]; exact (h c d hc hd).1, fun z => by rw [atKey_put_other hq]; exact (h c d hc hd).2 z⟩

/-- A map that is the call's own: places to numbers. -/
abbrev OwnP (w : World) (b n : Nat) (D : DataW Unit) : Prop := w.ownsMap Try.prog 90 (plainElem (H := Unit) Try.prog 3) b n D
theorem ownsMap_below {w w' : World} {b n : Nat} {D : DataW Unit} (h : OwnP w b n D) (hb : Below w.heap.size w w') : OwnP w' b n D :=
  h.kept (row := none) (grown_of_below hb none) (by simp)
theorem below_grown {n bm : Nat} {A B C : World} (h : Below n A B) (hg : B.grownBy C (some bm)) (hn : n ≤ B.heap.size) (hb : n ≤ bm) : Below n A C := h.grown hg hn (fun k e => by cases e; exact hb)

/-- Rows of numbers, of the call's own. -/
abbrev RR (w : World) (base : Nat) (v : Value) (rows : List (List Int)) : Prop := Kd.S (Kd.slice 3 (Kd.int .i64)) 32 w base (fun _ => True) v rows
/-- What is no block of cells of these types isn't among the rows. -/
theorem S_not {w : World} {base : Nat} {v : Value} {rows : List (List Int)} (h : RR w base v rows) {b : Nat} (hb : ∀ cells q, w.heap[b]? = some (.cells cells q (0, 0)) → q ≠ 32 ∧ q ≠ 3) : Kd.S (Kd.slice 3 (Kd.int .i64)) 32 w base (fun k => k ≠ b) v rows :=
  Kd.S_mono (Kd.S_bound h) (fun k hk => by
    obtain ⟨_, _, _, q, hq, cells, hc⟩ := hk
    rintro rfl
    have := hb _ _ hc
    simp only [Kd.slice, Kd.int, Kd.scalar, List.mem_cons, List.not_mem_nil, or_false] at hq
    rcases hq with rfl | rfl
    · exact this.1 rfl
    · exact this.2 rfl)
theorem S_other {w w1 : World} {base : Nat} {v : Value} {rows : List (List Int)} (h : RR w base v rows) {b : Nat} (hb : ∀ cells q, w.heap[b]? = some (.cells cells q (0, 0)) → q ≠ 32 ∧ q ≠ 3) (hg : w.grownBy w1 (some b)) : RR w1 base v rows :=
  Kd.S_mono (Kd.S_grown (S_not h hb) hg (fun k hk e => hk (by injection e))) (fun _ _ => trivial)
theorem grown_set (w : World) (b i : Nat) (v : Value) : w.grownBy (w.setCell ⟨b, i, none⟩ v) (some b) :=
  ⟨rfl, rfl, rfl, by simp [World.setCell], fun k hk h => Below.heap_setCell w ⟨b, i, none⟩ v k (fun e => h (by rw [e]))⟩
/-- A stand: rows and what stands at each place. -/
structure StandAt (w : World) (base g bm n : Nat) (D : DataW Unit) (v : Value) (rows : List (List Int)) : Prop where
  blk : w.heap[g]? = some (.cells #[v, .map (some bm)] 71)
  gb : base ≤ g
  bb : base ≤ bm
  row : RR w base v rows
  own : OwnP w bm n D
theorem StandAt.hv {w : World} {base g bm n : Nat} {D : DataW Unit} {v : Value} {rows : List (List Int)} (h : StandAt w base g bm n D v rows) : w.cell? ⟨g, 0, none⟩ = some v ∧ w.cell? ⟨g, 1, none⟩ = some (.map (some bm)) ∧ w.frozen? ⟨g, 0, none⟩ = false := by
  have := h.blk
  exact ⟨by simp [World.cell?, this], by simp [World.cell?, this], by simp [World.frozen?, this]⟩
theorem StandAt.below {w w1 : World} {base g bm n : Nat} {D : DataW Unit} {v : Value} {rows : List (List Int)} (h : StandAt w base g bm n D v rows) (hb : Below w.heap.size w w1) : StandAt w1 base g bm n D v rows :=
  ⟨blk_below h.blk hb, h.gb, h.bb, Kd.S_below h.row hb, ownsMap_below h.own hb⟩
theorem StandAt.mapObj {w : World} {base g bm n : Nat} {D : DataW Unit} {v : Value} {rows : List (List Int)} (h : StandAt w base g bm n D v rows) : ∃ es cl, w.heap[bm]? = some (.map es cl) := by
  obtain ⟨es, cl, hb, _⟩ := h.own
  exact ⟨es, cl, hb⟩
theorem StandAt.ne {w : World} {base g bm n : Nat} {D : DataW Unit} {v : Value} {rows : List (List Int)} (h : StandAt w base g bm n D v rows) : g ≠ bm := by
  obtain ⟨es, cl, hb⟩ := h.mapObj
  rintro rfl
  rw [h.blk] at hb; cases hb
/-- The map alone has turned. -/
theorem StandAt.turn {w w1 : World} {base g bm n n' : Nat} {D D' : DataW Unit} {v : Value} {rows : List (List Int)} (h : StandAt w base g bm n D v rows) (hg : w.grownBy w1 (some bm)) (ho : OwnP w1 bm n' D') : StandAt w1 base g bm n' D' v rows := by
  obtain ⟨es, cl, hb⟩ := h.mapObj
  refine ⟨?_, h.gb, h.bb, S_other h.row (fun cells q hc => by rw [hb] at hc; cases hc) hg, ho⟩
  rw [hg.block g (blk_lt h.blk) (fun e => h.ne (by injection e))]
  exact h.blk
/-- The list's header alone is written. -/
theorem StandAt.put0 {w : World} {base g bm n : Nat} {D : DataW Unit} {v v' : Value} {rows rows' : List (List Int)} (hb : w.heap[g]? = some (.cells #[v, .map (some bm)] 71)) (gb : base ≤ g) (bb : base ≤ bm) (hne : g ≠ bm) (hr : RR w base v' rows') (ho : OwnP w bm n D) : StandAt (w.setCell ⟨g, 0, none⟩ v') base g bm n D v' rows' := by
  have hg : w.grownBy (w.setCell ⟨g, 0, none⟩ v') (some g) := grown_set _ _ _ _
  refine ⟨?_, gb, bb, S_other hr (fun cells q hc => by rw [hb] at hc; cases hc; decide) hg, ?_⟩
  · exact blk_put hb 0 _ rfl
  · exact ho.kept hg (by simp [hne.symm])
end Go.Proofs.Ytpbemjdaanlaoaa.Pr
set_option linter.unusedVariables false
set_option linter.unusedSimpArgs false
namespace Go.Proofs.Ytpbemjdaanlaoaa.Pr
open Go.RowKit Go.Proofs.YtpbemjdaanlaoaaW.PrintWords Go.Proofs.YtpbemjdaanlaoaaW.PrintLast Go.Proofs.YtpbemjdaanlaoaaW.PrintMore
open Go.Maps
set_option maxRecDepth 100000

/-- What stands at the places of the first k rows, and at the first j of the next one. -/
def plF (rows : List (List Int)) (k j : Nat) (a b : Int) : Option Int := if 0 ≤ a ∧ 0 ≤ b ∧ ((a < k ∧ b < (rd_L1 rows a).length) ∨ (a = k ∧ b < j)) then some (rd (rd_L1 rows a) b) else none
theorem plF_zero (rows : List (List Int)) : plF rows 0 0 = fun _ _ => none := by
  funext a b
  unfold plF
  rw [if_neg (by omega)]
theorem plF_step (rows : List (List Int)) (k j : Nat) : plF rows k (j + 1) = putF (plF rows k j) (k : Int) (j : Int) (rd (rd_L1 rows (k : Int)) (j : Int)) := by
  funext a b
  unfold putF plF
  by_cases h : a = (k : Int) ∧ b = (j : Int)
  · rw [if_pos h, if_pos (by omega), h.1, h.2]
  · rw [if_neg h]
    by_cases h2 : 0 ≤ a ∧ 0 ≤ b ∧ ((a < k ∧ b < (rd_L1 rows a).length) ∨ (a = k ∧ b < j))
    · rw [if_pos h2, if_pos (by omega)]
    · rw [if_neg h2, if_neg (by omega)]
theorem plF_next (rows : List (List Int)) (k : Nat) : plF rows k (rd_L1 rows (k : Int)).length = plF rows (k + 1) 0 := by
  funext a b
  unfold plF
  have e : (0 ≤ a ∧ 0 ≤ b ∧ ((a < k ∧ b < (rd_L1 rows a).length) ∨ (a = k ∧ b < ((rd_L1 rows (k : Int)).length : Nat)))) ↔ (0 ≤ a ∧ 0 ≤ b ∧ ((a < ((k + 1 : Nat) : Int) ∧ b < (rd_L1 rows a).length) ∨ (a = ((k + 1 : Nat) : Int) ∧ b < ((0 : Nat) : Int)))) := by
    constructor
    · rintro ⟨h0, h1, h2⟩
      refine ⟨h0, h1, .inl ?_⟩
      rcases h2 with h2 | ⟨rfl, h2⟩
      · omega
      · omega
    · rintro ⟨h0, h1, h2⟩
      refine ⟨h0, h1, ?_⟩
      rcases h2 with ⟨h2, h3⟩ | h2
      · by_cases hk : a = (k : Int)
        · subst hk; exact .inr ⟨rfl, h3⟩
        · exact .inl ⟨by omega, h3⟩
      · omega
  by_cases h : (0 ≤ a ∧ 0 ≤ b ∧ ((a < k ∧ b < (rd_L1 rows a).length) ∨ (a = k ∧ b < ((rd_L1 rows (k : Int)).length : Nat))))
  · rw [if_pos h, if_pos (e.1 h)]
  · rw [if_neg h, if_neg (fun h2 => h (e.2 h2))]

theorem cell_al {w : World} {a : Addr} {v : Value} (o : Obj) (h : w.cell? a = some v) : (w.alloc o).cell? a = some v := (World.cell?_alloc_lt _ _ _ (World.block_lt_of_cell? _ _ h)).trans h
theorem cell_new_l (W : World) (v : Value) (t : TypeId) : (W.alloc (.cells #[v] t)).cell? ⟨W.heap.size, 0, none⟩ = some v ∧ (W.alloc (.cells #[v] t)).frozen? ⟨W.heap.size, 0, none⟩ = false := ⟨by simp [go_sem], by simp [go_sem]⟩
theorem heap_alloc_at {w : World} {o : Obj} {n : Nat} (h : n = w.heap.size) : (w.alloc o).heap[n]? = some o := by subst h; exact heap_alloc_new _ _
set_option maxHeartbeats 2000000 in
theorem newStand43 (A : Option Addr) (c : Nat) (rows : List (List Int)) (w : World) (hfl : rows.flatten.length ≤ 1000) (hrl : rows.length ≤ 1000) (hwf : ∀ x ∈ rows.flatten, wfi x) (hr : Kd.C (Kd.slice 3 (Kd.int .i64)) w A rows.length rows) :
    Calls Try.prog 43 #[.slice A rows.length c] w fun e w' => ∃ g bm n D v, e = .returned (.pointer (some ⟨g, 0, none⟩)) ∧ StandAt w' w.heap.size g bm n D v rows ∧ HasP D (plF rows rows.length 0) ∧ n ≤ 1000 ∧ Below w.heap.size w w' := by
  have hu69 := Try.underlying69
  have hu71 := Try.underlying71
  have hu68 := Try.underlying68
  have hu90 := Try.underlying90
  have hmm := @run_makeMap Try.prog
  have HF := Lib.hid (flat_le rows)
  have HS := Lib.hid (flat_succ rows)
  have HFL := Lib.hid hfl; clear hfl
  have HR := Lib.hid hr; clear hr
  have HWF := Lib.hid hwf; clear hwf
  go_enter Try.func43, Try.ntmps43
  go_wp2
  go_loopw [13] (fun i wr => ∃ (k n : Nat) (D : DataW Unit) (v : Value), k ≤ rows.length ∧ i = .int .i64 k ∧ Hid (StandAt wr w.heap.size (w.heap.size + 1) w.heap.size n D v (rows.take k)) ∧ Hid (HasP D (plF rows k 0)) ∧ n ≤ (flatK rows k).length ∧ Hid (Below w.heap.size w wr)) (fun i _ => rows.length - (intOf i).toNat)
  case atStart =>
    refine ⟨0, 0, .map [], .slice none 0 0, Nat.zero_le _, rfl, ⟨?_, by omega, Nat.le_refl _, ?_, ?_⟩, ?_, by simp, ?_⟩
    · exact heap_alloc_at (by simp)
    · exact Kd.S_nil _ _ _ _ _
    · exact (World.ownsMap_made w Try.prog 90 (plainElem (H := Unit) Try.prog 3)).alloc _
    · rw [plF_zero]; exact HasP.nil
    · exact ((Below.refl _ w).alloc (Nat.le_refl _) _).alloc (by simp) _
  case round =>
    obtain ⟨k, n, D, v, hk, rfl, HSt, HP, hn, HB⟩ := hrel
    by_cases hlt : k < rows.length
    · obtain ⟨ad, A1, c1, rfl, q1w, q2, q3w⟩ := at_L1 HR.out k (by omega) (by omega)
      simp only [Int.toNat_natCast] at q1w
      have q1 := pw_cell_below HB.out q1w
      have q3 := Kd.C_below q3w HB.out
      have Q3W := Lib.hid q3w; clear q3w q1w
      have hv := HSt.out.hv
      have Q3 := Lib.hid q3; clear q3
      obtain ⟨hv0, hv1, hv2⟩ := hv
      have hlr : (rd_L1 rows (k : Int)).length ≤ 1000 := by
        have e1 := HS.out k hlt
        have e2 := HF.out (k + 1)
        rw [e1, List.length_append] at e2
        have := HFL.out
        omega
      have hbase : Below wr.heap.size wr wr := Below.refl _ _
      have hbase2 : Below wr.heap.size wr wr.drew := hbase.drew
      have hgs := blk_lt HSt.out.blk
      go_wp2
      have hvd : wr.drew.cell? ⟨w.heap.size + 1, 0, none⟩ = some v := pw_cell_below hbase2 hv0
      have HSR := Lib.hid HSt.out.row
      have hvl := Kd.S_lt HSt.out.row
      have hbl : ((rows.take k).length + 1) * 24 ≤ 140737488355328 := by rw [List.length_take]; omega
      have htk : rows.take k ++ [rd_L1 rows (k : Int)] = rows.take (k + 1) := by rw [List.take_succ_eq_append_getElem hlt, rdL_get rows k hlt]
      have HTK := Lib.hid htk; clear htk
      have HVB : Hid (some w.heap.size ≠ v.ownBlock) := (fun e => by
        obtain ⟨cells, hc⟩ := Kd.S_typed HSt.out.row _ e.symm
        obtain ⟨es, cl, hb⟩ := HSt.out.mapObj
        rw [hb] at hc; cases hc)
      go_region_law
        (first
          | (refine Kd.S_append_step (Kd.slice 3 (Kd.int .i64)) (w0 := w) w.heap.size rfl _ _ 22 32 (.slice none 0 0) 24 rfl Try.underlying22 info32 rfl (by decide) (by omega) v (rows.take k) (rd_L1 rows (k : Int)) [.slice Ac (rd_L1 rows (k : Int)).length cc] (fun _ => True) (fun k_ => some k_ = (Value.slice Ac (rd_L1 rows (k : Int)).length cc).ownBlock ∧ True) rfl rfl (Kd.M_row (Kd.R_tight2 rfl (Kd.R_lower hRc (Nat.le_trans HB.out.size (by exact Nat.le_refl _))))) (fun k_ hk_ => ⟨trivial, fun e_ => by have h1 := hvl k_ e_.symm; have h2 : wr.heap.size ≤ k_ := Kd.R_base hRc k_ hk_.1.symm; omega⟩) (fun _ _ => trivial) (Kd.S_mono (Kd.S_bound HSR.out |> fun h => Kd.S_below h hbn) (fun k_ hk_ => ⟨trivial, fun e_ => by have h1 := hk_.2.2.1; have h2 : wr.heap.size ≤ k_ := Kd.R_base hRc k_ e_.1.symm; omega⟩)) (HB.out.trans (hbn.mono HB.out.size)) (Nat.le_trans HB.out.size hbn.size) hbl ?_
             intro v1 w1 hS1 hB1 hg1 hat1
             have hne1 : some (w.heap.size + 1) ≠ v.ownBlock := Kd.S_ne HSt.out.row HSt.out.blk (by decide)
             have hv1 : w1.cell? ⟨w.heap.size + 1, 0, none⟩ = some v := hg1.cell hvn hne1
             have hf1 : w1.frozen? ⟨w.heap.size + 1, 0, none⟩ = false := by have hb9 := (hg1.block (w.heap.size + 1) (World.block_lt_of_cell? _ _ hvn) hne1).trans (blk_below HSt.out.blk hbn); simp [World.frozen?, hb9]
             have HB9 := Lib.hid ((hg1.block (w.heap.size + 1) (World.block_lt_of_cell? _ _ hvn) hne1).trans (blk_below HSt.out.blk hbn))
             have HO9 := Lib.hid ((ownsMap_below HSt.out.own hbn).kept hg1 (HVB.out))
             obtain ⟨A9, c9, rfl⟩ := Kd.S_slice hS1
             have HS1 := Lib.hid hS1
             have HB1 := Lib.hid hB1
             clear hS1 hB1)
          | (go_simp; go_at_call 79; refine (clone79 A1 c1 (rd_L1 rows (k : Int)) hlr _ (Kd.C_below Q3.out (by assumption))).mono ?_; rintro e w' ⟨vc, rfl, hRc, hbc⟩; obtain ⟨Ac, cc, rfl, _, _⟩ := Kd.R_reads hRc; have hbn : Below wr.heap.size wr w' := Below.trans (by assumption) (hbc.mono (Below.size (by assumption))); have hvn : w'.cell? ⟨w.heap.size + 1, 0, none⟩ = some v := pw_cell_below hbn hv0; have hvna : ∀ o, (w'.alloc o).cell? ⟨w.heap.size + 1, 0, none⟩ = some v := fun o => cell_al o hvn))
      all_goals
        have hS2 := HS1.out
        have hl3 : (rows.take (k + 1)).length = k + 1 := by rw [List.length_take]; omega
        rw [HTK.out, hl3] at hS2
        have st2 := StandAt.put0 (rows := rows) HB9.out (by omega) (Nat.le_refl _) (by omega) hS2 HO9.out
        have hB2 := HB1.out.setCell (p := ⟨w.heap.size + 1, 0, none⟩) (by simp) (.slice A9 (k + 1) c9)
        clear hS2
        generalize (w1.setCell ⟨w.heap.size + 1, 0, none⟩ (.slice A9 (k + 1) c9)) = W2 at *
        have ST2 := Lib.hid st2; have HB2 := Lib.hid hB2; clear st2 hB2
        go_wp2
        go_loopw [33] (fun i wq => ∃ (j n' : Nat) (D' : DataW Unit), j ≤ (rd_L1 rows (k : Int)).length ∧ i = .int .i64 j ∧ Hid (StandAt wq w.heap.size (w.heap.size + 1) w.heap.size n' D' (.slice A9 (k + 1) c9) (rows.take (k + 1))) ∧ Hid (HasP D' (plF rows k j)) ∧ n' ≤ (flatK rows k).length + j ∧ Hid (Below w.heap.size w wq)) (fun i _ => (rd_L1 rows (k : Int)).length - (intOf i).toNat)
        case atStart => exact ⟨0, n, D, Nat.zero_le _, rfl, ST2, HP, hn, HB2⟩
        case round =>
          obtain ⟨j, n', D', hj, rfl, HSj, HPj, hn', HBj⟩ := hrel
          by_cases hjl : j < (rd_L1 rows (k : Int)).length
          · have hq3 := Kd.C_below Q3W.out HBj.out
            obtain ⟨adr, rfl, z1⟩ := Kd.at_int hq3 j (by omega) (by omega)
            simp only [Int.toNat_natCast] at z1
            obtain ⟨hu0, hu1, hu2⟩ := HSj.out.hv
            have hk1 : wfi (k : Int) := wfi_of (by omega)
            have hj1 : wfi (j : Int) := wfi_of (by omega)
            have hx1 : wfi (rd (rd_L1 rows (k : Int)) (j : Int)) := by
              refine HWF.out _ (List.mem_flatten.2 ⟨rd_L1 rows (k : Int), ?_, ?_⟩)
              · rw [rdL_get rows k hlt]; exact List.getElem_mem hlt
              · rw [rd_get _ j hjl]; exact List.getElem_mem hjl
            have hnl : n' < maxLen := by
              have := HF.out k
              have := HFL.out
              unfold maxLen; omega
            have HK := Lib.hid hk1; have HJ := Lib.hid hj1; have HX := Lib.hid hx1
            clear hk1 hj1 hx1 hq3 hu2
            go_wp2_with ((at_mapUpdate; refine wpList_mapUpdate_own _ rfl _ _ _ 69 rfl 90 3 law90 Try.underlying69 _ w.heap.size n' D' rfl HSj.out.own hnl _ _ _ rfl rfl (kp_key HK.out HJ.out) _ [] (plainElem_int Try.underlying3 HX.out) ?_; intro w3 hown3 hgrow3; have ST3 := Lib.hid (HSj.out.turn hgrow3 hown3); have HB3 := Lib.hid (below_grown HBj.out hgrow3 HBj.out.size (Nat.le_refl _)); clear hown3 hgrow3))
            refine ⟨⟨j + 1, n' + 1, _, by omega, by go_num, ST3, ?_, by omega, HB3⟩, by simp [intOf]; omega⟩
            rw [plF_step]
            exact HPj.out.put HSj.out.own.isMap _ HK.out HJ.out
          · obtain rfl : j = (rd_L1 rows (k : Int)).length := by omega
            rw [plF_next] at HPj
            have hn2 : n' ≤ (flatK rows (k + 1)).length := by rw [HS.out k hlt, List.length_append]; omega
            go_wp2
            exact ⟨⟨k + 1, n', D', _, by omega, by go_num, HSj, HPj, hn2, HBj⟩, by simp [intOf]; omega⟩
    · obtain rfl : k = rows.length := by omega
      have hn2 : n ≤ 1000 := Nat.le_trans hn (Nat.le_trans (HF.out rows.length) HFL.out)
      rw [List.take_length] at HSt
      go_wp2
      go_ret
      exact ⟨_, _, n, D, v, rfl, HSt.out, HP.out, hn2, HB.out⟩
end Go.Proofs.Ytpbemjdaanlaoaa.Pr
set_option linter.unusedVariables false
set_option linter.unusedSimpArgs false
namespace Go.Proofs.Ytpbemjdaanlaoaa.Pr
open Go.RowKit Go.Proofs.YtpbemjdaanlaoaaW.PrintWords Go.Proofs.YtpbemjdaanlaoaaW.PrintLast Go.Proofs.YtpbemjdaanlaoaaW.PrintMore
set_option maxRecDepth 100000

theorem findIdx_at {α : Type} (p : α → Bool) (l : List α) (k : Nat) (hk : k < l.length) (h : p l[k] = true) (h2 : ∀ j, (hj : j < k) → p (l[j]'(by omega)) = false) : l.findIdx p = k := by
  rw [List.findIdx_eq hk]
  exact ⟨h, fun j hj => by simpa using h2 j hj⟩
theorem findIdx_no {α : Type} (p : α → Bool) (l : List α) (h : ∀ x ∈ l, p x = false) : l.findIdx p = l.length := by
  rw [List.findIdx_eq_length]
  exact h

set_option maxHeartbeats 1000000 in
theorem find83 (g : Nat) (caps : Array Value) (A : Option Addr) (c : Nat) (l : List Int) (w : World) (p : Int → Bool)
    (hg0 : EntersF g)
    (hp : ∀ x W, Below w.heap.size w W → Calls Try.prog g (#[.int .i64 x] ++ caps) W fun e W' => e = .returned (.bool (p x)) ∧ Below w.heap.size w W')
    (hr : Kd.C (Kd.int .i64) w A l.length l) :
    Calls Try.prog 83 #[.slice A l.length c, .func (.func g) #[] caps] w fun e w' => e = .returned (.int .i64 ((l.findIdx p : Nat) : Int)) ∧ Below w.heap.size w w' := by
  have hg : ∀ (xs : Array Value) (W : World), (callFunc g xs).run Try.prog W = .ok (.enter g xs) W := hg0
  go_enter Try.func83, Try.ntmps83
  go_wp2
  have hlen : l.length ≤ 9223372036854775807 := hr.2.1
  go_loopw [9] (fun i wr => ∃ k : Nat, k ≤ l.length ∧ i = .int .i64 k ∧ Below w.heap.size w wr ∧ ∀ j, j < k → p (rd l j) = false) (fun i _ => l.length - (intOf i).toNat)
  case atStart => exact ⟨0, Nat.zero_le _, rfl, Below.refl _ _, fun j hj => absurd hj (Nat.not_lt_zero j)⟩
  case round =>
    obtain ⟨k, hk, rfl, hb, hno⟩ := hrel
    have Hno := Lib.hid hno; clear hno
    by_cases hlt : k < l.length
    · obtain ⟨ad, rfl, hcell⟩ := Kd.at_int hr k (by omega) (by omega)
      have hcell2 : wr.cell? (ad.add k) = some (.int .i64 (rd l k)) := by simpa using pw_cell_below hb hcell
      have hpk := hp (rd l k) wr hb
      clear hcell hp
      generalize hpp : p (rd l k) = q at hpk
      have Hpp := Lib.hid hpp; clear hpp
      cases q
      all_goals go_wp2_with ((with_reducible refine hpk.mono ?_); rintro e W' ⟨rfl, hb2⟩)
      · go_roundw
        case rel =>
          refine ⟨k + 1, by omega, by go_num, hb2, fun j hj => ?_⟩
          rcases Nat.lt_or_ge j k with h | h
          · exact Hno.out j h
          · obtain rfl : j = k := by omega
            exact Hpp.out
        case measure => simp [intOf]; omega
      · go_ret
        exact ⟨ret_int (by rw [findIdx_at p l k hlt (by rw [← rd_get l k hlt]; exact Hpp.out) (fun j hj => by rw [← rd_get l j (by omega)]; exact Hno.out j hj)]), hb2⟩
    · go_wp2
      go_ret
      exact ⟨ret_int (by rw [findIdx_no p l (fun x hx => by obtain ⟨j, hj, rfl⟩ := List.mem_iff_getElem.1 hx; rw [← rd_get l j hj]; exact Hno.out j (by omega))]), hb⟩

theorem gt84 (n t : Int) (p1 : Addr) (w : World) (h1 : w.cell? p1 = some (.int .i64 t)) :
    Calls Try.prog 84 #[.int .i64 n, .pointer (some p1)] w fun e w' => e = .returned (.bool (decide (n > t))) ∧ w = w' := by
  go_enter Try.func84, Try.ntmps84
  go_wp2
  go_ret
  exact ⟨rfl, rfl⟩
theorem ge86 (n t : Int) (p1 : Addr) (w : World) (h1 : w.cell? p1 = some (.int .i64 t)) :
    Calls Try.prog 86 #[.int .i64 n, .pointer (some p1)] w fun e w' => e = .returned (.bool (decide (n ≥ t))) ∧ w = w' := by
  go_enter Try.func86, Try.ntmps86
  go_wp2
  go_ret
  exact ⟨rfl, rfl⟩
theorem enters84 : EntersF 84 := fun _ _ => by kernel_rfl
theorem enters86 : EntersF 86 := fun _ _ => by kernel_rfl
/-- The index of the first one that is greater. -/
def gtIdx (l : List Int) (t : Int) : Nat := l.findIdx (fun n => decide (n > t))
def geIdx (l : List Int) (t : Int) : Nat := l.findIdx (fun n => decide (n ≥ t))
theorem gtIdx_le (l : List Int) (t : Int) : gtIdx l t ≤ l.length := List.findIdx_le_length
theorem geIdx_le (l : List Int) (t : Int) : geIdx l t ≤ l.length := List.findIdx_le_length
theorem findGt (B : Nat) (t : Int) (A : Option Addr) (c : Nat) (l : List Int) (w : World) (hB : w.cell? ⟨B, 0, none⟩ = some (.int .i64 t)) (hr : Kd.C (Kd.int .i64) w A l.length l) :
    Calls Try.prog 83 #[.slice A l.length c, .func (.func 84) #[] #[.pointer (some ⟨B, 0, none⟩)]] w fun e w' => e = .returned (.int .i64 ((gtIdx l t : Nat) : Int)) ∧ Below w.heap.size w w' :=
  find83 84 _ A c l w (fun n => decide (n > t)) enters84 (fun x W hb => (gt84 x t _ W (pw_cell_below hb hB)).mono fun e W' ⟨he, hw⟩ => ⟨he, hw ▸ hb⟩) hr
theorem findGe (B : Nat) (t : Int) (A : Option Addr) (c : Nat) (l : List Int) (w : World) (hB : w.cell? ⟨B, 0, none⟩ = some (.int .i64 t)) (hr : Kd.C (Kd.int .i64) w A l.length l) :
    Calls Try.prog 83 #[.slice A l.length c, .func (.func 86) #[] #[.pointer (some ⟨B, 0, none⟩)]] w fun e w' => e = .returned (.int .i64 ((geIdx l t : Nat) : Int)) ∧ Below w.heap.size w w' :=
  find83 86 _ A c l w (fun n => decide (n ≥ t)) enters86 (fun x W hb => (ge86 x t _ W (pw_cell_below hb hB)).mono fun e W' ⟨he, hw⟩ => ⟨he, hw ▸ hb⟩) hr
end Go.Proofs.Ytpbemjdaanlaoaa.Pr
set_option linter.unusedVariables false
set_option linter.unusedSimpArgs false
namespace Go.Proofs.Ytpbemjdaanlaoaa.Pr
open Go.RowKit Go.Proofs.YtpbemjdaanlaoaaW.PrintWords Go.Proofs.YtpbemjdaanlaoaaW.PrintLast Go.Proofs.YtpbemjdaanlaoaaW.PrintMore
open Go.Maps
set_option maxRecDepth 100000

/-- A taper on its way down: the rows, the taper, where it came into the first row; k rows are behind it. -/
def putS (rows : List (List Int)) (t : Int) : Nat → List (List Int) × Int × Int
  | 0 => (rows, t, -1)
  | k + 1 => ((putS rows t k).1.set k ((rd_L1 (putS rows t k).1 (k : Int)).set (gtIdx (rd_L1 (putS rows t k).1 (k : Int)) (putS rows t k).2.1) (putS rows t k).2.1),
      rd (rd_L1 (putS rows t k).1 (k : Int)) ((gtIdx (rd_L1 (putS rows t k).1 (k : Int)) (putS rows t k).2.1 : Nat) : Int),
      if (putS rows t k).2.2 < 0 then ((gtIdx (rd_L1 (putS rows t k).1 (k : Int)) (putS rows t k).2.1 : Nat) : Int) else (putS rows t k).2.2)
/-- Where it ends. -/
def putFind (rows : List (List Int)) (t : Int) : Nat → Nat → List (List Int) × Int × Int
  | 0, k => ((putS rows t k).1 ++ [[(putS rows t k).2.1]], (k : Int), mx 0 (putS rows t k).2.2)
  | d + 1, k => if gtIdx (rd_L1 (putS rows t k).1 (k : Int)) (putS rows t k).2.1 = (rd_L1 (putS rows t k).1 (k : Int)).length then
      ((putS rows t k).1.set k (rd_L1 (putS rows t k).1 (k : Int) ++ [(putS rows t k).2.1]), (k : Int), if (putS rows t k).2.2 < 0 then ((gtIdx (rd_L1 (putS rows t k).1 (k : Int)) (putS rows t k).2.1 : Nat) : Int) else (putS rows t k).2.2)
    else putFind rows t d (k + 1)
def putL (rows : List (List Int)) (t : Int) : List (List Int) × Int × Int := putFind rows t rows.length 0
theorem putS_len (rows : List (List Int)) (t : Int) : ∀ k, (putS rows t k).1.length = rows.length
  | 0 => rfl
  | k + 1 => by simp [putS, putS_len rows t k]

/-- What is outside O is as it was. -/
structure Kpt (O : Nat → Prop) (w w' : World) : Prop where
  os : w'.os = w.os
  tape : w'.tape = w.tape
  output : w'.output = w.output
  size : w.heap.size ≤ w'.heap.size
  block : ∀ k, k < w.heap.size → ¬ O k → w'.heap[k]? = w.heap[k]?
/-- O, and what is made. -/
def ext (O : Nat → Prop) (n : Nat) (k : Nat) : Prop := O k ∨ n ≤ k
section
variable {O : Nat → Prop} {w w1 w2 : World}
theorem Kpt.refl (O : Nat → Prop) (w : World) : Kpt O w w := ⟨rfl, rfl, rfl, Nat.le_refl _, fun _ _ _ => rfl⟩
theorem Kpt.trans (h : Kpt O w w1) (k : Kpt (ext O w.heap.size) w1 w2) : Kpt O w w2 :=
  ⟨k.os.trans h.os, k.tape.trans h.tape, k.output.trans h.output, Nat.le_trans h.size k.size, fun i hi hn => (k.block i (Nat.lt_of_lt_of_le hi h.size) (fun e => e.elim hn (fun e => by omega))).trans (h.block i hi hn)⟩
theorem Kpt.below (h : Kpt O w w1) (k : Below w1.heap.size w1 w2) : Kpt O w w2 :=
  ⟨k.os.trans h.os, k.tape.trans h.tape, k.output.trans h.output, Nat.le_trans h.size k.size, fun i hi hn => (k.block i (Nat.lt_of_lt_of_le hi h.size)).trans (h.block i hi hn)⟩
theorem Kpt.drew (h : Kpt O w w1) : Kpt O w w1.drew := ⟨h.os, h.tape, h.output, h.size, h.block⟩
theorem Kpt.alloc (h : Kpt O w w1) (o : Obj) : Kpt O w (w1.alloc o) := h.below ((Below.refl _ _).alloc (Nat.le_refl _) o)
theorem Kpt.grown {row : Option Nat} (h : Kpt O w w1) (hg : w1.grownBy w2 row) (hr : ∀ k, row = some k → ext O w.heap.size k) : Kpt O w w2 :=
  ⟨hg.os.trans h.os, hg.tape.trans h.tape, hg.output.trans h.output, Nat.le_trans h.size hg.size, fun i hi hn => (hg.block i (Nat.lt_of_lt_of_le hi h.size) (fun e => (hr i e.symm).elim hn (fun e => by omega))).trans (h.block i hi hn)⟩
theorem Kpt.setCell (h : Kpt O w w1) {p : Addr} (hp : ext O w.heap.size p.block) (u : Value) : Kpt O w (w1.setCell p u) :=
  ⟨h.os, h.tape, h.output, (by have := h.size; simpa [World.setCell] using this), fun i hi hn => (Below.heap_setCell w1 p u i (fun e => by subst e; exact hp.elim hn (fun e => by omega))).trans (h.block i hi hn)⟩
theorem Kpt.toBelow (h : Kpt O w w1) {base : Nat} (hO : ∀ k, O k → base ≤ k) (hb : base ≤ w.heap.size) : Below base w w1 :=
  ⟨h.os, h.tape, h.output, h.size, fun i hi => h.block i (by omega) (fun e => by have := hO i e; omega)⟩
end
/-- A stand, and where it may stand. -/
structure StandO (O : Nat → Prop) (w : World) (base g bm n : Nat) (D : DataW Unit) (v : Value) (rows : List (List Int)) : Prop where
  blk : w.heap[g]? = some (.cells #[v, .map (some bm)] 71)
  gb : base ≤ g
  bb : base ≤ bm
  og : O g
  ob : O bm
  row : Kd.S (Kd.slice 3 (Kd.int .i64)) 32 w base O v rows
  own : OwnP w bm n D
theorem StandO.toAt {O : Nat → Prop} {w : World} {base g bm n : Nat} {D : DataW Unit} {v : Value} {rows : List (List Int)} (h : StandO O w base g bm n D v rows) : StandAt w base g bm n D v rows :=
  ⟨h.blk, h.gb, h.bb, Kd.S_mono h.row (fun _ _ => trivial), h.own⟩
theorem StandAt.toO {w : World} {base g bm n : Nat} {D : DataW Unit} {v : Value} {rows : List (List Int)} (h : StandAt w base g bm n D v rows) : StandO (fun k => base ≤ k) w base g bm n D v rows :=
  ⟨h.blk, h.gb, h.bb, h.gb, h.bb, Kd.S_mono (Kd.S_bound h.row) (fun _ hk => hk.2.1), h.own⟩
theorem StandO.below {O : Nat → Prop} {w w1 : World} {base g bm n : Nat} {D : DataW Unit} {v : Value} {rows : List (List Int)} (h : StandO O w base g bm n D v rows) (hb : Below w.heap.size w w1) : StandO O w1 base g bm n D v rows :=
  ⟨blk_below h.blk hb, h.gb, h.bb, h.og, h.ob, Kd.S_below h.row hb, ownsMap_below h.own hb⟩
theorem StandO.mono {O O' : Nat → Prop} {w : World} {base g bm n : Nat} {D : DataW Unit} {v : Value} {rows : List (List Int)} (h : StandO O w base g bm n D v rows) (ho : ∀ k, O k → O' k) : StandO O' w base g bm n D v rows :=
  ⟨h.blk, h.gb, h.bb, ho _ h.og, ho _ h.ob, Kd.S_mono h.row ho, h.own⟩
/-- What is not of the stand, and old, stays. -/
theorem StandO.stays {O : Nat → Prop} {w w1 : World} {base g bm n : Nat} {D : DataW Unit} {v : Value} {rows : List (List Int)} (h : StandO O w base g bm n D v rows) {g2 : Nat} (hk : Kpt (fun k => k = g2) w w1) (hg : ∀ k, O k → k ≠ g2) : StandO O w1 base g bm n D v rows := by
  obtain ⟨es, cl, hb, hr⟩ := h.own
  have hg' := hg _ h.og
  have hb' := hg _ h.ob
  refine ⟨(hk.block g (blk_lt h.blk) hg').trans h.blk, h.gb, h.bb, h.og, h.ob, Kd.S_step h.row (fun k ho hlt => hk.block k hlt (hg k ho)), ?_⟩
  exact ⟨es, cl, (hk.block bm (blk_lt hb) hb').trans hb, hr⟩

theorem StandO.turn {O : Nat → Prop} {w w1 : World} {base g bm n n' : Nat} {D D' : DataW Unit} {v : Value} {rows : List (List Int)} (h : StandO O w base g bm n D v rows) (hg : w.grownBy w1 (some bm)) (ho : OwnP w1 bm n' D') : StandO O w1 base g bm n' D' v rows := by
  obtain ⟨es, cl, hb⟩ := h.toAt.mapObj
  refine ⟨?_, h.gb, h.bb, h.og, h.ob, ?_, ho⟩
  · rw [hg.block g (blk_lt h.blk) (fun e => h.toAt.ne (by injection e))]
    exact h.blk
  · refine Kd.S_mono (Kd.S_grown (Kd.S_bound h.row) hg (fun k hk e => ?_)) (fun _ hk => hk.1)
    obtain ⟨_, _, _, q, hq, cells, hc⟩ := hk
    injection e with e
    rw [e, hb] at hc; cases hc
theorem StandO.put0 {O : Nat → Prop} {w : World} {base g bm n : Nat} {D : DataW Unit} {v v' : Value} {rows' : List (List Int)} (hb : w.heap[g]? = some (.cells #[v, .map (some bm)] 71)) (gb : base ≤ g) (bb : base ≤ bm) (og : O g) (ob : O bm) (hne : g ≠ bm) (hr : Kd.S (Kd.slice 3 (Kd.int .i64)) 32 w base O v' rows') (ho : OwnP w bm n D) : StandO O (w.setCell ⟨g, 0, none⟩ v') base g bm n D v' rows' := by
  have hg : w.grownBy (w.setCell ⟨g, 0, none⟩ v') (some g) := grown_set _ _ _ _
  refine ⟨?_, gb, bb, og, ob, ?_, ?_⟩
  · exact blk_put hb 0 _ rfl
  · refine Kd.S_mono (Kd.S_grown (Kd.S_bound hr) hg (fun k hk e => ?_)) (fun _ hk => hk.1)
    obtain ⟨_, _, _, q, hq, cells, hc⟩ := hk
    injection e with e
    rw [e, hb] at hc
    simp only [Kd.slice, Kd.int, Kd.scalar, List.mem_cons, List.not_mem_nil, or_false] at hq
    injection hc with hc
    injection hc with _ hc
    subst hc
    rcases hq with hq | hq <;> exact absurd hq (by decide)
  · exact ho.kept hg (by simp [hne.symm])

/-- A stand with a box for a taper. -/
structure StandX (O : Nat → Prop) (w : World) (base B g bm n : Nat) (t : Int) (D : DataW Unit) (v : Value) (rows : List (List Int)) : Prop where
  blk : w.heap[g]? = some (.cells #[v, .map (some bm)] 71)
  gb : base ≤ g
  bb : base ≤ bm
  bB : base ≤ B
  og : O g
  ob : O bm
  oB : O B
  row : Kd.S (Kd.slice 3 (Kd.int .i64)) 32 w base (fun k => (k ≠ B ∧ k ≠ bm) ∧ O k) v rows
  own : OwnP w bm n D
  box : w.heap[B]? = some (.cells #[.int .i64 t] 3)
theorem StandX.below {O : Nat → Prop} {w w1 : World} {base B g bm n : Nat} {t : Int} {D : DataW Unit} {v : Value} {rows : List (List Int)} (h : StandX O w base B g bm n t D v rows) (hb : Below w.heap.size w w1) : StandX O w1 base B g bm n t D v rows :=
  ⟨blk_below h.blk hb, h.gb, h.bb, h.bB, h.og, h.ob, h.oB, Kd.S_below h.row hb, ownsMap_below h.own hb, blk_below h.box hb⟩
theorem StandX.mapObj {O : Nat → Prop} {w : World} {base B g bm n : Nat} {t : Int} {D : DataW Unit} {v : Value} {rows : List (List Int)} (h : StandX O w base B g bm n t D v rows) : ∃ es cl, w.heap[bm]? = some (.map es cl) := by
  obtain ⟨es, cl, hb, _⟩ := h.own
  exact ⟨es, cl, hb⟩
theorem StandX.ne {O : Nat → Prop} {w : World} {base B g bm n : Nat} {t : Int} {D : DataW Unit} {v : Value} {rows : List (List Int)} (h : StandX O w base B g bm n t D v rows) : g ≠ bm ∧ B ≠ bm ∧ g ≠ B := by
  obtain ⟨es, cl, hb⟩ := h.mapObj
  refine ⟨?_, ?_, ?_⟩
  · rintro rfl; rw [h.blk] at hb; cases hb
  · rintro rfl; rw [h.box] at hb; cases hb
  · rintro rfl; have := h.blk; rw [h.box] at this; cases this
theorem StandX.cells {O : Nat → Prop} {w : World} {base B g bm n : Nat} {t : Int} {D : DataW Unit} {v : Value} {rows : List (List Int)} (h : StandX O w base B g bm n t D v rows) : w.cell? ⟨g, 0, none⟩ = some v ∧ w.cell? ⟨g, 1, none⟩ = some (.map (some bm)) ∧ w.frozen? ⟨g, 0, none⟩ = false ∧ w.cell? ⟨B, 0, none⟩ = some (.int .i64 t) ∧ w.frozen? ⟨B, 0, none⟩ = false := by
  have h1 := h.blk
  have h2 := h.box
  exact ⟨by simp [World.cell?, h1], by simp [World.cell?, h1], by simp [World.frozen?, h1], by simp [World.cell?, h2], by simp [World.frozen?, h2]⟩
/-- The map alone has turned. -/
theorem StandX.turn {O : Nat → Prop} {w w1 : World} {base B g bm n n' : Nat} {t : Int} {D D' : DataW Unit} {v : Value} {rows : List (List Int)} (h : StandX O w base B g bm n t D v rows) (hg : w.grownBy w1 (some bm)) (ho : OwnP w1 bm n' D') : StandX O w1 base B g bm n' t D' v rows := by
  obtain ⟨n1, n2, n3⟩ := h.ne
  refine ⟨?_, h.gb, h.bb, h.bB, h.og, h.ob, h.oB, Kd.S_grown h.row hg (fun k hk e => hk.1.2 (by injection e)), ho, ?_⟩
  · rw [hg.block g (blk_lt h.blk) (fun e => n1 (by injection e))]; exact h.blk
  · rw [hg.block B (blk_lt h.box) (fun e => n2 (by injection e))]; exact h.box
theorem StandX.toO {O : Nat → Prop} {w : World} {base B g bm n : Nat} {t : Int} {D : DataW Unit} {v : Value} {rows : List (List Int)} (h : StandX O w base B g bm n t D v rows) : StandO O w base g bm n D v rows :=
  ⟨h.blk, h.gb, h.bb, h.og, h.ob, Kd.S_mono h.row (fun _ hk => hk.2), h.own⟩
/-- Row k, lent: its header, what it holds, and how it is put back. -/
theorem StandX.lend {O : Nat → Prop} {w : World} {base B g bm n : Nat} {t : Int} {D : DataW Unit} {v : Value} {rows : List (List Int)} (h : StandX O w base B g bm n t D v rows) (k : Nat) (hk : k < rows.length) :
    ∃ go cap vk, v = .slice (some ⟨go, 0, none⟩) rows.length cap ∧ w.cell? ⟨go, k, none⟩ = some vk ∧ ∃ oki, Kd.R (Kd.int .i64) 3 w base oki vk (rd_L1 rows (k : Int)) ∧ (∀ q, oki q → ((q ≠ B ∧ q ≠ bm) ∧ O q) ∧ q ≠ go) ∧ Kd.H (Kd.slice 3 (Kd.int .i64)) 32 w base (fun k => (k ≠ B ∧ k ≠ bm) ∧ O k) v rows (k : Int) oki [vk] := by
  obtain ⟨go, cap, rfl, _⟩ := Kd.S_form h.row (by omega)
  obtain ⟨oki, c, hc, ⟨vk, rfl, hR⟩, hcell, hoki, hH⟩ := Kd.S_lend h.row ([] : List Int) (k : Int) (by omega) (by omega)
  refine ⟨go, cap, vk, rfl, ?_, oki, hR, hoki, hH⟩
  have := hcell 0 vk rfl
  have e : (k : Int).toNat * (Kd.slice 3 (Kd.int .i64)).sz + 0 = k := by simp [Kd.slice]
  rw [e] at this
  exact this
/-- What is known of a lent row's block. -/
theorem lent_ne {O : Nat → Prop} {w : World} {base B g bm n : Nat} {t : Int} {D : DataW Unit} {v : Value} {rows : List (List Int)} (h : StandX O w base B g bm n t D v rows) {oki : Nat → Prop} {vk : Value} {row : List Int} (hR : Kd.R (Kd.int .i64) 3 w base oki vk row) (hoki : ∀ q, oki q → (q ≠ B ∧ q ≠ bm)) : some g ≠ vk.ownBlock ∧ some bm ≠ vk.ownBlock ∧ some B ≠ vk.ownBlock :=
  ⟨Kd.R_ne hR h.blk (by decide), fun e => (hoki bm (hR.1 bm e.symm)).2 rfl, fun e => (hoki B (hR.1 B e.symm)).1 rfl⟩
/-- A taper goes into row k, in the place of another one, which the box holds then. -/
theorem StandX.bump {O : Nat → Prop} {w : World} {base B g bm n : Nat} {t : Int} {D : DataW Unit} {v : Value} {rows : List (List Int)} (h : StandX O w base B g bm n t D v rows) {k : Nat} (hk : k < rows.length) {oki : Nat → Prop} {gi ni ci : Nat} {row : List Int}
    (hR : Kd.R (Kd.int .i64) 3 w base oki (.slice (some ⟨gi, 0, none⟩) ni ci) row) (hoki : ∀ q, oki q → (q ≠ B ∧ q ≠ bm)) (hH : Kd.H (Kd.slice 3 (Kd.int .i64)) 32 w base (fun k => (k ≠ B ∧ k ≠ bm) ∧ O k) v rows (k : Int) oki [.slice (some ⟨gi, 0, none⟩) ni ci]) (j : Nat) (x y : Int) :
    StandX O ((w.setCell ⟨gi, j, none⟩ (.int .i64 x)).setCell ⟨B, 0, none⟩ (.int .i64 y)) base B g bm n y D v (rows.set k (row.set j x)) := by
  obtain ⟨m1, m2, m3⟩ := lent_ne h hR hoki
  have eo : (Value.slice (some ⟨gi, 0, none⟩) ni ci).ownBlock = some gi := by simp [Value.ownBlock]
  rw [eo] at m1 m2 m3
  obtain ⟨n1, n2, n3⟩ := h.ne
  have hg1 := grown_set w gi j (.int .i64 x)
  have hR1 := Kd.R_putn (h1 := fun _ => rfl) hR (j : Int) x
  rw [Int.toNat_natCast] at hR1
  have hS := Kd.H_back (Kd.H_grown hH hg1 (fun q e => hR.1 q (by rw [eo, e]))) (Kd.M_row hR1) (fun _ hq => hq)
  rw [Int.toNat_natCast] at hS
  have hS2 := Kd.S_far (p := ⟨B, 0, none⟩) hS (fun q hq => hq.1.1) (.int .i64 y)
  have b1 : (w.setCell ⟨gi, j, none⟩ (.int .i64 x)).heap[g]? = some (.cells #[v, .map (some bm)] 71) := (hg1.block g (blk_lt h.blk) m1).trans h.blk
  have b2 : (w.setCell ⟨gi, j, none⟩ (.int .i64 x)).heap[B]? = some (.cells #[.int .i64 t] 3) := (hg1.block B (blk_lt h.box) m3).trans h.box
  have o1 : OwnP (w.setCell ⟨gi, j, none⟩ (.int .i64 x)) bm n D := h.own.kept hg1 m2
  have hg2 := grown_set (w.setCell ⟨gi, j, none⟩ (.int .i64 x)) B 0 (.int .i64 y)
  refine ⟨(hg2.block g (blk_lt b1) (fun e => n3 (by injection e))).trans b1, h.gb, h.bb, h.bB, h.og, h.ob, h.oB, hS2, o1.kept hg2 (fun e => n2 (by injection e with e; exact e.symm)), ?_⟩
  exact blk_put b2 0 _ rfl
/-- A taper is appended to row k (it left v1, w1), and the row's header stored. -/
theorem StandX.ends {O : Nat → Prop} {w w1 : World} {base B g bm n : Nat} {t : Int} {D : DataW Unit} {go nn cap : Nat} {rows : List (List Int)} (h : StandX O w base B g bm n t D (.slice (some ⟨go, 0, none⟩) nn cap) rows) {k : Nat} (hk : k < rows.length) {oki : Nat → Prop} {vk v1 : Value} {row row1 : List Int}
    (hR : Kd.R (Kd.int .i64) 3 w base oki vk row) (hoki : ∀ q, oki q → ((q ≠ B ∧ q ≠ bm) ∧ O q) ∧ q ≠ go) (hH : Kd.H (Kd.slice 3 (Kd.int .i64)) 32 w base (fun k => (k ≠ B ∧ k ≠ bm) ∧ O k) (.slice (some ⟨go, 0, none⟩) nn cap) rows (k : Int) oki [vk])
    (hR1 : Kd.R (Kd.int .i64) 3 w1 base (fun q => oki q ∨ ((q ≠ B ∧ q ≠ bm) ∧ O q) ∧ w.heap.size ≤ q) v1 row1) (hg : w.grownBy w1 vk.ownBlock) :
    (w1.cell? ⟨g, 0, none⟩ = some (.slice (some ⟨go, 0, none⟩) nn cap)) ∧ (∃ u, w1.cell? ⟨go, k, none⟩ = some u) ∧ w1.frozen? ⟨go, k, none⟩ = false ∧ base ≤ go ∧ O go ∧ StandO O (w1.setCell ⟨go, k, none⟩ v1) base g bm n D (.slice (some ⟨go, 0, none⟩) nn cap) (rows.set k row1) := by
  obtain ⟨m1, m2, m3⟩ := lent_ne h hR (fun q hq => (hoki q hq).1.1)
  have hnn := (Kd.S_reads' h.row).1
  have b1 : w1.heap[g]? = some (.cells #[.slice (some ⟨go, 0, none⟩) nn cap, .map (some bm)] 71) := (hg.block g (blk_lt h.blk) m1).trans h.blk
  have eo : (Value.slice (some ⟨go, 0, none⟩) nn cap).ownBlock = some go := by simp [Value.ownBlock]
  have hgo : some go ≠ vk.ownBlock := fun e => (hoki go (hR.1 go e.symm)).2 rfl
  obtain ⟨cells, hty⟩ := Kd.S_typed h.row go eo
  have hty1 : w1.heap[go]? = some (.cells cells 32 (0, 0)) := (hg.block go (blk_lt hty) hgo).trans hty
  have hH1 := Kd.H_grown (Kd.H_widen hH) hg (fun q e => .inl (hR.1 q e))
  obtain ⟨_, _, _, _, _, hcc, _⟩ := Kd.H_raw hH1 (by omega) (by omega)
  have e0 : (k : Int).toNat * (Kd.slice 3 (Kd.int .i64)).sz + 0 = k := by simp [Kd.slice]
  have hc := hcc 0 vk rfl
  rw [e0] at hc
  obtain ⟨hH2, hg2⟩ := Kd.H_seg (seg := [v1]) (j := 0) hH1 (by omega) (by omega) (by simp [Kd.slice]) (fun q hq => by rw [List.mem_singleton.1 hq]; obtain ⟨A, c, rfl⟩ := Kd.R_slice hR1; rfl)
  rw [e0] at hH2 hg2
  have hR2 := Kd.R_grown hR1 hg2 (fun q hq e => by
    injection e with e
    subst e
    rcases hq with hq | hq
    · exact (hoki _ hq).2 rfl
    · have := blk_lt hty; omega)
  have hS := Kd.H_back hH2 (Kd.M_row hR2) (fun _ hq => hq)
  rw [Int.toNat_natCast] at hS
  have hne : g ≠ go := fun e => by subst e; rw [h.blk] at hty; cases hty
  have hnm : bm ≠ go := fun e => by
    subst e
    obtain ⟨es, cl, hb⟩ := h.mapObj
    rw [hb] at hty; cases hty
  refine ⟨by simp [World.cell?, b1], ⟨vk, hc⟩, by simp [World.frozen?, hty1], Kd.S_base h.row go eo, (h.row.choose_spec.1 _ eo).2, ?_, h.gb, h.bb, h.og, h.ob, Kd.S_mono hS (fun _ hk => hk.2), ?_⟩
  · exact (hg2.block g (blk_lt b1) (fun e => hne (by injection e))).trans b1
  · exact (h.own.kept hg m2).kept hg2 (fun e => hnm (by injection e))
def okR (rows : List (List Int)) : Prop := ∀ row ∈ rows, row.length ≤ 1000 ∧ ∀ x ∈ row, wfi x
theorem okR_at {rows : List (List Int)} (h : okR rows) {k : Nat} (hk : k < rows.length) : (rd_L1 rows (k : Int)).length ≤ 1000 ∧ ∀ x ∈ rd_L1 rows (k : Int), wfi x := by
  rw [rdL_get rows k hk]; exact h _ (List.getElem_mem hk)
theorem okR_set {rows : List (List Int)} (h : okR rows) (k : Nat) {row : List Int} (hr : row.length ≤ 1000 ∧ ∀ x ∈ row, wfi x) : okR (rows.set k row) := by
  intro r hr2
  rcases List.mem_or_eq_of_mem_set hr2 with h1 | h1
  · exact h r h1
  · rw [h1]; exact hr
theorem rd_wfi {row : List Int} (h : ∀ x ∈ row, wfi x) (j : Nat) : wfi (rd row (j : Int)) := by
  by_cases hj : j < row.length
  · rw [rd_get row j hj]; exact h _ (List.getElem_mem hj)
  · have : rd row (j : Int) = 0 := by simp [rd, hj]
    rw [this]; exact wfi_of (by omega)
theorem putS_ok {rows : List (List Int)} {t : Int} (h : okR rows) (ht : wfi t) : ∀ k, k ≤ rows.length → okR (putS rows t k).1 ∧ wfi (putS rows t k).2.1
  | 0, _ => ⟨h, ht⟩
  | k + 1, hk => by
    obtain ⟨i1, i2⟩ := putS_ok h ht k (by omega)
    have hl := putS_len rows t k
    have h1 := okR_at i1 (k := k) (by omega)
    refine ⟨okR_set i1 k ⟨by rw [List.length_set]; exact h1.1, fun x hx => ?_⟩, rd_wfi h1.2 _⟩
    rcases List.mem_or_eq_of_mem_set hx with h2 | h2
    · exact h1.2 x h2
    · rw [h2]; exact i2
end Go.Proofs.Ytpbemjdaanlaoaa.Pr
set_option linter.unusedVariables false
set_option linter.unusedSimpArgs false
namespace Go.Proofs.Ytpbemjdaanlaoaa.Pr
open Go.RowKit Go.Proofs.YtpbemjdaanlaoaaW.PrintWords Go.Proofs.YtpbemjdaanlaoaaW.PrintLast Go.Proofs.YtpbemjdaanlaoaaW.PrintMore
open Go.Maps
set_option maxRecDepth 100000
attribute [local go_sem] max2_int min2_int max_two min_two

set_option maxHeartbeats 4000000 in
theorem put52o (O : Nat → Prop) (base g bm n : Nat) (D : DataW Unit) (v : Value) (rows : List (List Int)) (t : Int) (w : World) (hSt : StandO O w base g bm n D v rows) (hbw : base ≤ w.heap.size) (hrl : rows.length ≤ 100) (hn : n ≤ 100000) (hwt : wfi t) (hwf : okR rows) :
    Calls Try.prog 52 #[.pointer (some ⟨g, 0, none⟩), .int .i64 t] w fun e w' => ∃ n' D' v', e = .returned (.tuple #[.int .i64 (putL rows t).2.1, .int .i64 (putL rows t).2.2]) ∧ StandO (ext O w.heap.size) w' base g bm n' D' v' (putL rows t).1 ∧ n' ≤ n + rows.length + 1 ∧ Kpt O w w' := by
  have hu69 := Try.underlying69
  have hu71 := Try.underlying71
  have hu68 := Try.underlying68
  have hu90 := Try.underlying90
  have hgs := blk_lt hSt.blk
  obtain ⟨es0, cl0, hbm0⟩ := hSt.toAt.mapObj
  have hbms := blk_lt hbm0
  obtain ⟨P, hP⟩ : ∃ P, P = ext O w.heap.size := ⟨_, rfl⟩
  have hPO : ∀ k, O k → P k := fun k hk => by rw [hP]; exact .inl hk
  have hPn : ∀ k, w.heap.size ≤ k → P k := fun k hk => by rw [hP]; exact .inr hk
  have hPe : ∀ k, P k → ext O w.heap.size k := fun k hk => by rw [hP] at hk; exact hk
  have hX0 : StandX P (w.alloc (.cells #[.int .i64 t] 3)) base w.heap.size g bm n t D v rows :=
    ⟨blk_alloc hSt.blk _, hSt.gb, hSt.bb, hbw, hPO _ hSt.og, hPO _ hSt.ob, hPn _ (Nat.le_refl _), Kd.S_alloc (Kd.S_mono (Kd.S_bound hSt.row) (fun k hk => ⟨⟨by have := hk.2.2.1; omega, fun e => by obtain ⟨_, _, _, q, hq, cells, hc⟩ := hk; rw [e, hbm0] at hc; cases hc⟩, hPO _ hk.1⟩)) _, ownsMap_below hSt.own (below_alloc (Below.refl _ _) _), heap_alloc_new _ _⟩
  have HX0 := Lib.hid hX0; clear hX0
  obtain ⟨hc0, hc1, hc2⟩ := hSt.toAt.hv
  obtain ⟨cv, hcv⟩ : ∃ A cap, v = .slice A rows.length cap := Kd.S_slice hSt.row
  obtain ⟨cap, rfl⟩ := hcv
  have hca : ∀ o, (w.alloc o).cell? ⟨g, 0, none⟩ = some (.slice cv rows.length cap) := fun o => cell_al o hc0
  have HWF := Lib.hid hwf; have HWT := Lib.hid hwt; have HPO := Lib.hid hPO; have HPN := Lib.hid hPn; have HPE := Lib.hid hPe; have HP := Lib.hid hP
  clear hSt hc2 hbm0 hwf hwt hPO hPn hPe hP
  go_enter Try.func52, Try.ntmps52
  go_wp2
  go_step3
  go_wp2
  go_step3
  go_wp2
  go_loopw [6, 16] (fun f i wr => ∃ (k n' : Nat) (D' : DataW Unit), k ≤ rows.length ∧ i = .int .i64 k ∧ f = .int .i64 (putS rows t k).2.2 ∧ Hid (StandX P wr base w.heap.size g bm n' (putS rows t k).2.1 D' (.slice cv rows.length cap) (putS rows t k).1) ∧ n' ≤ n + k ∧ Hid (Kpt O w wr) ∧ Hid (putL rows t = putFind rows t (rows.length - k) k) ∧ Hid (w.heap.size < wr.heap.size)) (fun _ i _ => rows.length - (intOf i).toNat)
  case atStart =>
    exact ⟨0, n, D, Nat.zero_le _, rfl, rfl, HX0, Nat.le_refl _, ((Kpt.refl O w).alloc _), rfl, (by show w.heap.size < _; simp)⟩
  case round =>
    obtain ⟨k, n', D', hk, rfl, rfl, HX, hn', HB, HF, HZ⟩ := hrel
    have hlenk := putS_len rows t k
    have hwk := putS_ok HWF.out HWT.out k hk
    by_cases hlt : k < rows.length
    · obtain ⟨go, cap2, vk, hv, q1, oki, hR, hoki, hH⟩ := HX.out.lend k (by rw [hlenk]; exact hlt)
      injection hv with hv1 hv2 hv3
      subst hv1 hv3
      clear hv2
      obtain ⟨Ak, ck, rfl, hck, hCk⟩ := Kd.R_reads hR
      obtain ⟨x0, x1, x2, x3, x4⟩ := HX.out.cells
      have HR := Lib.hid hR; have HH := Lib.hid hH; have HOK := Lib.hid hoki; have HC := Lib.hid hCk
      clear hR hH hoki hCk
      generalize hs : putS rows t k = s at *
      obtain ⟨R, tt, f⟩ := s
      have HW := Lib.hid hwk.2; have HOR := Lib.hid hwk.1; clear hwk
      obtain ⟨row, hrow⟩ : ∃ row, row = rd_L1 R (k : Int) := ⟨_, rfl⟩
      rw [← hrow] at HR HC hck q1 HH
      have HAT := Lib.hid (gtIdx_le row tt)
      have HROW := Lib.hid hrow; have HS := Lib.hid hs; have HLK := Lib.hid hlenk
      clear hrow hs hlenk
      by_cases hf : f < 0
      all_goals
        go_wp2_with (go_at_call 83; refine (findGt w.heap.size tt Ak ck row wr x3 HC.out).mono ?_; rintro e w1 ⟨rfl, hb1⟩; have HB1 := Lib.hid hb1; have y1 := pw_cell_below hb1 x1; have y3 := pw_cell_below hb1 x3; clear hb1)
        have hX1 := (HX.out.below HB1.out).below (w1 := w1.drew) ((Below.refl _ _).drew)
        have hnl : n' < maxLen := by unfold maxLen; omega
        have hk1 : wfi (k : Int) := wfi_of (by omega)
        have ha1 : wfi ((gtIdx row tt : Nat) : Int) := wfi_of (by have := HAT.out; have := HC.out.2.1; omega)
        obtain ⟨W3, hrun, hown3, hturn⟩ := hX1.own.store law90 Try.underlying69 hnl (kp_key hk1 ha1) (plainElem_int (q := .i64) (H := Unit) Try.underlying3 (show (Lit.int .i64 tt).wf = true from HW.out))
        have hX3 := hX1.turn hturn.grown hown3
        have hR3 := Kd.R_grown (Kd.R_drew (Kd.R_below HR.out HB1.out)) hturn.grown (fun q hq e => (HOK.out q hq).1.1.2 (by injection e))
        have hH3 := Kd.H_other (Kd.H_drew (Kd.H_below HH.out HB1.out)) hturn.grown (fun q hq e => hq.1.2 (by injection e))
        have hB3 := ((HB.out.below HB1.out).drew).grown hturn.grown (fun k e => by cases e; exact HPE.out _ hX1.ob)
        have hZ3 : w.heap.size < W3.heap.size := by have := HZ.out; have := HB1.out.size; have := hturn.grown.size; simp at this; omega
        have HX3 := Lib.hid hX3; have HR3 := Lib.hid hR3; have HH3 := Lib.hid hH3; have HB3 := Lib.hid hB3; have HZ3 := Lib.hid hZ3
        clear hX1 hk1 ha1 hown3 hturn hX3 hR3 hH3 hB3 hZ3 hnl
        go_region
        clear hrun y1 y3 x0 x1 x2 x3 x4 q1
        obtain ⟨x0, x1, x2, x3, x4⟩ := HX3.out.cells
        by_cases hat : gtIdx row tt = row.length
        · have hat' : ((gtIdx row tt : Nat) : Int) = ((row.length : Nat) : Int) := by omega
          have hlr : row.length ≤ 1000 := by
            have := (okR_at HOR.out (k := k) (by rw [HLK.out]; exact hlt)).1
            rw [← HROW.out] at this; exact this
          have hbl : (row.length + 1) * 8 ≤ 140737488355328 := by omega
          have x0d : W3.drew.cell? ⟨g, 0, none⟩ = some (.slice (some ⟨go, 0, none⟩) rows.length cap) := pw_cell_below ((Below.refl _ _).drew) x0
          have x0a : ∀ o, (W3.alloc o).cell? ⟨g, 0, none⟩ = some (.slice (some ⟨go, 0, none⟩) rows.length cap) := fun o => cell_al o x0
          have x0b : ∀ o, (W3.drew.alloc o).cell? ⟨g, 0, none⟩ = some (.slice (some ⟨go, 0, none⟩) rows.length cap) := fun o => cell_al o x0d
          have hkR : k < R.length := by rw [HLK.out]; exact hlt
          have hfin : Hid (putL rows t = (R.set k (row ++ [tt]), (k : Int), if f < 0 then ((gtIdx row tt : Nat) : Int) else f)) := by
            show _ = _
            rw [HF.out]
            have : rows.length - k = (rows.length - (k + 1)) + 1 := by omega
            rw [this]
            conv => lhs; unfold putFind
            rw [HS.out]
            show (if gtIdx (rd_L1 R (k : Int)) tt = (rd_L1 R (k : Int)).length then _ else _) = _
            rw [← HROW.out, if_pos hat]
          have hWs : W3.drew.heap.size = W3.heap.size := rfl
          go_wp2
          go_region_law
            (first
              | (refine Kd.R_append_step (Kd.int .i64) (w0 := W3.drew) base rfl _ _ 32 3 (.int .i64 0) 8 rfl Try.underlying32 info3 rfl (by decide) (by omega) (.slice Ak row.length ck) row tt [.int .i64 tt] (fun q => oki q ∨ ((q ≠ w.heap.size ∧ q ≠ bm) ∧ P q) ∧ W3.drew.heap.size ≤ q) (fun _ => False) rfl rfl rfl (fun _ h => h.elim) (fun q hq => .inr ⟨⟨⟨by have := HZ3.out; omega, by have := blk_lt HX3.out.mapObj.choose_spec.choose_spec; omega⟩, HPN.out q (by have := HZ3.out; omega)⟩, hq⟩) (Kd.R_mono (Kd.R_drew HR3.out) (fun q hq => .inl hq)) (Below.refl _ _) (Nat.le_trans hbw (Nat.le_of_lt HZ3.out)) hbl ?_
                 intro v1 w1 hr1 hb1 hg1 hat1
                 obtain ⟨A9, c9, rfl⟩ := Kd.R_slice hr1
                 obtain ⟨y0, ⟨u, y1⟩, y2, y3, y4, hAt⟩ := (HX3.out.below ((Below.refl _ _).drew)).ends hkR (Kd.R_drew HR3.out) HOK.out (Kd.H_drew HH3.out) hr1 hg1
                 rw [show (row ++ [tt]).length = row.length + 1 by simp] at hAt
                 have HAT1 := Lib.hid hAt; have HY4 := Lib.hid y4; have HB9 := Lib.hid ((HB3.out.drew).grown hg1 (fun k_ e_ => HPE.out k_ (HOK.out k_ (HR3.out.1 k_ e_)).1.2))
                 clear hAt hb1 y4))
          all_goals
            go_wp2
            rw [Exit.noGoto_ret]
            go_ret2
            refine ⟨n' + 1, _, _, ?_, (by rw [hfin.out, ← HP.out]; exact HAT1.out), by omega, HB9.out.setCell (p := ⟨go, k, none⟩) (HPE.out _ HY4.out) _⟩
            rw [hfin.out]
            simp [hf, hat]
            try (intro h; omega)
        · have hat' : ¬ ((gtIdx row tt : Nat) : Int) = ((row.length : Nat) : Int) := by omega
          have hatl : gtIdx row tt < row.length := by have := HAT.out; omega
          obtain ⟨gi, ci, hvi, hgi, _⟩ := Kd.R_form HR3.out (by omega)
          injection hvi with hv1 _ hv3
          subst hv1 hv3
          have hgB : gi ≠ w.heap.size ∧ gi ≠ bm := (HOK.out gi (HR3.out.1 gi (by simp [Value.ownBlock]))).1.1
          have HGP := Lib.hid (HOK.out gi (HR3.out.1 gi (by simp [Value.ownBlock]))).1.2
          obtain ⟨z1, z2⟩ := Kd.R_celln (0 : Int) HR3.out ((gtIdx row tt : Nat) : Int) (by omega) (by omega)
          rw [Int.toNat_natCast] at z1 z2
          have z1' : W3.cell? ⟨gi, gtIdx row tt, none⟩ = some (.int .i64 (rd row ((gtIdx row tt : Nat) : Int))) := z1
          have hgB1 := hgB.1
          have hgB2 : w.heap.size ≠ gi := fun e => hgB1 e.symm
          clear z1
          have HST : Hid (putS rows t (k + 1) = (R.set k (row.set (gtIdx row tt) tt), rd row ((gtIdx row tt : Nat) : Int), if f < 0 then ((gtIdx row tt : Nat) : Int) else f)) := by
            show _ = _
            rw [putS, HS.out, HROW.out]
          have HX4 := Lib.hid ((HX3.out.bump (k := k) (by rw [HLK.out]; exact hlt) HR3.out (fun q hq => (HOK.out q hq).1.1) HH3.out (gtIdx row tt) tt (rd row ((gtIdx row tt : Nat) : Int))).below ((Below.refl _ _).drew))
          have HB4 := Lib.hid (((HB3.out.setCell (p := ⟨gi, gtIdx row tt, none⟩) (HPE.out _ HGP.out) (.int .i64 tt)).setCell (p := ⟨w.heap.size, 0, none⟩) (.inr (Nat.le_refl _)) (.int .i64 (rd row ((gtIdx row tt : Nat) : Int)))).drew)
          have HZ4 : Hid (w.heap.size < ((W3.setCell ⟨gi, gtIdx row tt, none⟩ (.int .i64 tt)).setCell ⟨w.heap.size, 0, none⟩ (.int .i64 (rd row ((gtIdx row tt : Nat) : Int)))).drew.heap.size) := by
            show _ < _
            have := HZ3.out
            simpa [World.setCell, World.drew] using this
          have HF4 : Hid (putL rows t = putFind rows t (rows.length - (k + 1)) (k + 1)) := by
            show _ = _
            rw [HF.out]
            have : rows.length - k = (rows.length - (k + 1)) + 1 := by omega
            rw [this]
            conv => lhs; unfold putFind
            rw [HS.out]
            show (if gtIdx (rd_L1 R (k : Int)) tt = (rd_L1 R (k : Int)).length then _ else _) = _
            rw [← HROW.out, if_neg hat]
          clear hgi hgB
          go_wp2
          go_region
          go_wp2
          refine ⟨⟨k + 1, n' + 1, D'.put (kp (k : Int) ((gtIdx row tt : Nat) : Int)) (.lit (.int .i64 tt)), by omega, by go_num, ?_, ?_, by omega, HB4, HF4, HZ4⟩, by simp [intOf]; omega⟩
          · rw [HST.out]
            simp [hf]
            try (intro h; omega)
          · rw [HST.out]
            exact HX4
    · obtain rfl : k = rows.length := by omega
      have hfin : Hid (putL rows t = ((putS rows t rows.length).1 ++ [[(putS rows t rows.length).2.1]], ((rows.length : Nat) : Int), mx 0 (putS rows t rows.length).2.2)) := by
        show _ = _
        rw [HF.out, Nat.sub_self]
        rfl
      have HW := Lib.hid hwk.2
      clear hwk
      generalize putS rows t rows.length = s at *
      obtain ⟨R, tt, f⟩ := s
      have HLK := Lib.hid hlenk; clear hlenk
      obtain ⟨x0, x1, x2, x3, x4⟩ := HX.out.cells
      have hvl := Kd.S_lt HX.out.row
      have hng : some g ≠ (Value.slice cv rows.length cap).ownBlock := Kd.S_ne HX.out.row HX.out.blk (by decide)
      have hnB : some w.heap.size ≠ (Value.slice cv rows.length cap).ownBlock := fun e => (HX.out.row.choose_spec.1 _ e.symm).1.1 rfl
      have hnm : some bm ≠ (Value.slice cv rows.length cap).ownBlock := fun e => (HX.out.row.choose_spec.1 _ e.symm).1.2 rfl
      have hrow1 : RI (wr.drew.alloc (.cells #[.int .i64 tt] 3)) wr.heap.size (.slice (some ⟨wr.heap.size, 0, none⟩) 1 1) [tt] := R_lits wr.drew 3 [tt] (by simp)
      have HROW := Lib.hid hrow1; have HVL := Lib.hid hvl; have HNG := Lib.hid hng; have HNB := Lib.hid hnB; have HNM := Lib.hid hnm
      have x0a : ∀ o, (wr.alloc o).cell? ⟨g, 0, none⟩ = some (.slice cv rows.length cap) := fun o => cell_al o x0
      have x0b : ∀ o o', ((wr.alloc o).alloc o').cell? ⟨g, 0, none⟩ = some (.slice cv rows.length cap) := fun o o' => cell_al o' (cell_al o x0)
      have hbl : (R.length + 1) * 24 ≤ 140737488355328 := by rw [HLK.out]; omega
      clear hrow1 hvl hng hnB hnm
      go_wp2
      go_region_law
        (first
          | (refine Kd.S_append_step (Kd.slice 3 (Kd.int .i64)) (w0 := wr.drew.alloc (.cells #[.int .i64 tt] 3)) base rfl _ _ 22 32 (.slice none 0 0) 24 rfl Try.underlying22 info32 rfl (by decide) (by omega) (.slice cv rows.length cap) R [tt] [.slice (some ⟨wr.heap.size, 0, none⟩) 1 1] (fun q => (q ≠ w.heap.size ∧ q ≠ bm) ∧ P q) (fun q => some q = (Value.slice (some ⟨wr.heap.size, 0, none⟩) 1 1).ownBlock ∧ True) rfl (by show Value.slice (some ⟨wr.heap.size + 1, 0, none⟩) 1 1 = _; simp) (Kd.M_row (Kd.R_tight2 rfl (Kd.R_lower HROW.out (Nat.le_trans hbw (Nat.le_of_lt HZ.out))))) (fun q hq => by
               have hq1 : q = wr.heap.size := by have := hq.1; simpa [Value.ownBlock] using this
               have h1 := HZ.out
               exact ⟨⟨⟨by omega, by omega⟩, HPN.out q (by omega)⟩, fun e => by have := HVL.out q e.symm; omega⟩) (fun q hq => by have h1 := HZ.out; simp at hq; exact ⟨⟨by omega, by omega⟩, HPN.out q (by omega)⟩) (Kd.S_mono (Kd.S_bound HX.out.row |> fun h => Kd.S_alloc (Kd.S_drew h) _) (fun q hq => ⟨hq.1, fun e => by
               have hq1 : q = wr.heap.size := by have := e.1; simpa [Value.ownBlock] using this
               have := hq.2.2.1; omega⟩)) (Below.refl _ _) (by have := HZ.out; simp; omega) hbl ?_
             intro v1 w1 hS1 hb1 hg1 hat1
             obtain ⟨A9, c9, rfl⟩ := Kd.S_slice hS1
             have hblk1 : w1.heap[g]? = some (.cells #[.slice cv rows.length cap, .map (some bm)] 71) := (hg1.block g (blk_lt (blk_alloc (blk_drew HX.out.blk) _)) HNG.out).trans (blk_alloc (blk_drew HX.out.blk) _)
             have hbox1 : w1.heap[w.heap.size]? = some (.cells #[.int .i64 tt] 3) := (hg1.block _ (blk_lt (blk_alloc (blk_drew HX.out.box) _)) HNB.out).trans (blk_alloc (blk_drew HX.out.box) _)
             have hv1 : w1.cell? ⟨g, 0, none⟩ = some (.slice cv rows.length cap) := by simp [World.cell?, hblk1]
             have hf1 : w1.frozen? ⟨g, 0, none⟩ = false := by simp [World.frozen?, hblk1]
             have HO1 := Lib.hid ((ownsMap_below HX.out.own (((Below.refl _ wr).drew).alloc (Nat.le_refl _) _)).kept hg1 HNM.out)
             have HS1 := Lib.hid hS1; have HB1 := Lib.hid (((HB.out.drew).alloc _).grown hg1 (fun k_ e_ => HPE.out k_ (HX.out.row.choose_spec.1 k_ e_).2)); have HBL1 := Lib.hid hblk1; have HBX1 := Lib.hid hbox1
             clear hS1 hb1 hblk1 hbox1))
      all_goals
        have hl2 : (R ++ [[tt]]).length = R.length + 1 := by simp
        have hS2 := HS1.out
        rw [hl2] at hS2
        have hne := HX.out.ne
        have st2 := StandO.put0 HBL1.out HX.out.gb HX.out.bb HX.out.og HX.out.ob hne.1 (Kd.S_mono hS2 (fun _ hk => hk.2)) HO1.out
        have hB2 := HB1.out.setCell (p := ⟨g, 0, none⟩) (HPE.out _ HX.out.og) (.slice A9 (R.length + 1) c9)
        have hg2 := grown_set w1 g 0 (.slice A9 (R.length + 1) c9)
        have hx2 : (w1.setCell ⟨g, 0, none⟩ (.slice A9 (R.length + 1) c9)).heap[w.heap.size]? = some (.cells #[.int .i64 tt] 3) := (hg2.block _ (blk_lt HBX1.out) (fun e => hne.2.2 (by injection e with e; exact e.symm))).trans HBX1.out
        clear hS2 hg2 hne hat1 hg1 hf1 hv1
        generalize (w1.setCell ⟨g, 0, none⟩ (.slice A9 (R.length + 1) c9)) = W2 at *
        have z3 : W2.cell? ⟨w.heap.size, 0, none⟩ = some (.int .i64 tt) := by simp [World.cell?, hx2]
        obtain ⟨z0, z1, _⟩ := st2.toAt.hv
        have hLR : ((R.length : Nat) : Int) ≤ 100 := by have := HLK.out; omega
        have hnl : n' < maxLen := by unfold maxLen; omega
        have hk1 : wfi ((R.length : Nat) : Int) := wfi_of (by omega)
        have ha1 : wfi (0 : Int) := wfi_of (by omega)
        have st3 := st2.below (w1 := W2.drew) ((Below.refl _ _).drew)
        obtain ⟨W3, hrun, hown3, hturn⟩ := st3.own.store law90 Try.underlying69 hnl (kp_key hk1 ha1) (plainElem_int (q := .i64) (H := Unit) Try.underlying3 (show (Lit.int .i64 tt).wf = true from HW.out))
        have st4 := st3.turn hturn.grown hown3
        have hB4 := (hB2.drew).grown hturn.grown (fun k e => by cases e; exact HPE.out _ st3.ob)
        have ST4 := Lib.hid st4; have HB4 := Lib.hid hB4
        obtain ⟨u0, _, _⟩ := st4.toAt.hv
        clear st2 hB2 hx2 st3 hk1 ha1 hown3 hturn st4 hB4 hnl
        go_wp2
        go_region
        go_wp2
        all_goals
          go_ret2
          first
            | refine ⟨n' + 1, _, _, ?_, (by rw [hfin.out, ← HP.out]; exact ST4.out), by omega, HB4.out⟩
            | refine ⟨?_, n' + 1, ⟨_, _, (by rw [hfin.out, ← HP.out]; exact ST4.out)⟩, by omega, HB4.out⟩
          rw [hfin.out]
          simp [mx, HLK.out]
          try omega
theorem put52 (base g bm n : Nat) (D : DataW Unit) (v : Value) (rows : List (List Int)) (t : Int) (w : World) (hSt : StandAt w base g bm n D v rows) (hbw : base ≤ w.heap.size) (hrl : rows.length ≤ 100) (hn : n ≤ 100000) (hwt : wfi t) (hwf : okR rows) :
    Calls Try.prog 52 #[.pointer (some ⟨g, 0, none⟩), .int .i64 t] w fun e w' => ∃ n' D' v', e = .returned (.tuple #[.int .i64 (putL rows t).2.1, .int .i64 (putL rows t).2.2]) ∧ StandAt w' base g bm n' D' v' (putL rows t).1 ∧ n' ≤ n + rows.length + 1 ∧ Below base w w' :=
  (put52o (fun k => base ≤ k) base g bm n D v rows t w hSt.toO hbw hrl hn hwt hwf).mono fun e w' ⟨n', D', v', h1, h2, h3, h4⟩ => ⟨n', D', v', h1, h2.toAt, h3, h4.toBelow (fun _ h => h) hbw⟩
end Go.Proofs.Ytpbemjdaanlaoaa.Pr
