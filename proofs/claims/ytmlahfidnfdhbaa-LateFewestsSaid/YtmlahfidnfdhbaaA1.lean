import Derived.Test.YtmlahfidnfdhbaaPr1
import Derived.Test.YtmlahfidnfdhbaaPr0
import Derived.WalkKit
import Derived.WalkSpells
import Derived.WalkLawsBesides
import Derived.Lib.Hide
set_option linter.unusedVariables false
set_option linter.unusedSimpArgs false
namespace Go.Proofs.Ytmlahfidnfdhbaa.Pr
open Go.RowKit Go.Proofs.YtmlahfidnfdhbaaW.PrintWords Go.Proofs.YtmlahfidnfdhbaaW.PrintLast

/-- The index of the first element that is p; -1 if none is. -/
def idxI {α : Type} (p : α → Bool) (l : List α) : Int := match l.findIdx? p with | some i => (i : Int) | none => -1
theorem idxI_neg {α : Type} (p : α → Bool) (l : List α) (h : ∀ x ∈ l, p x = false) : idxI p l = -1 := by
  unfold idxI
  rw [List.findIdx?_eq_none_iff.2 h]
theorem idxI_at {α : Type} (p : α → Bool) (l : List α) (k : Nat) (hk : k < l.length) (h : p l[k] = true) (h2 : ∀ j, (hj : j < k) → p (l[j]'(by omega)) = false) : idxI p l = k := by
  unfold idxI
  have : l.findIdx? p = some k := by
    rw [List.findIdx?_eq_some_iff_getElem]
    exact ⟨hk, h, fun j hj => by simpa using h2 j hj⟩
  rw [this]
theorem idxI_any {α : Type} (p : α → Bool) (l : List α) : decide (0 ≤ idxI p l) = l.any p := by
  unfold idxI
  cases h : l.findIdx? p with
  | none => rw [List.findIdx?_eq_none_iff] at h; symm; simpa using h
  | some i =>
    rw [List.findIdx?_eq_some_iff_getElem] at h
    obtain ⟨hi, h1, _⟩ := h
    symm
    simp only [Int.natCast_nonneg, decide_true, List.any_eq_true]
    exact ⟨_, List.getElem_mem hi, h1⟩
theorem ret_int {k : IntKind} {a b : Int} (h : a = b) : Ending.returned (.int k a) = .returned (.int k b) := by rw [h]
theorem ret_bool {a b : Bool} (h : a = b) : Ending.returned (.bool a) = .returned (.bool b) := by rw [h]
theorem rd_get (l : List Int) (k : Nat) (hk : k < l.length) : rd l k = l[k] := by simp [rd, List.getElem?_eq_getElem hk]

set_option maxHeartbeats 400000 in
theorem within1_any (n lo hi : Int) (p1 p2 : Addr) (w : World) (h1 : w.cell? p1 = some (.int .i64 lo)) (h2 : w.cell? p2 = some (.int .i64 hi)) :
    Calls Try.prog 71 #[.int .i64 n, .pointer (some p1), .pointer (some p2)] w fun e w' => e = .returned (.bool (decide (n < lo) || decide (hi < n))) ∧ w = w' := by
  by_cases c1 : n < lo
  · go_enter Try.func71, Try.ntmps71
    go_wp2
    go_ret
    exact ⟨by simp [c1], rfl⟩
  · go_enter Try.func71, Try.ntmps71
    go_wp2
    go_ret
    exact ⟨by by_cases c2 : hi < n <;> simp [c1, c2] , rfl⟩

def EntersF (g : Nat) : Prop := ∀ (xs : Array Value) (W : World), (callFunc g xs).run Try.prog W = .ok (.enter g xs) W

set_option maxHeartbeats 400000 in
theorem indexFunc84 (g : Nat) (caps : Array Value) (A : Option Addr) (c : Nat) (l : List Int) (w : World) (p : Int → Bool)
    (hg0 : EntersF g)
    (hp : ∀ x W, Below w.heap.size w W → Calls Try.prog g (#[.int .i64 x] ++ caps) W fun e W' => e = .returned (.bool (p x)) ∧ Below w.heap.size w W')
    (hr : Kd.C (Kd.int .i64) w A l.length l) :
    Calls Try.prog 84 #[.slice A l.length c, .func (.func g) #[] caps] w fun e w' => e = .returned (.int .i64 (idxI p l)) ∧ Below w.heap.size w w' := by
  have hg : ∀ (xs : Array Value) (W : World), (callFunc g xs).run Try.prog W = .ok (.enter g xs) W := hg0
  go_enter Try.func84, Try.ntmps84
  go_wp2
  have hlen : l.length ≤ 9223372036854775807 := hr.2.1
  go_loopw [8] (fun i wr => ∃ k : Nat, k ≤ l.length ∧ i = .int .i64 k ∧ Below w.heap.size w wr ∧ ∀ j, j < k → p (rd l j) = false) (fun i _ => l.length - (intOf i).toNat)
  case atStart => exact ⟨0, Nat.zero_le _, rfl, Below.refl _ _, fun j hj => absurd hj (Nat.not_lt_zero j)⟩
  case round =>
    obtain ⟨k, hk, rfl, hb, hno⟩ := hrel
    have Hno := Lib.hid hno; clear hno
    by_cases hlt : k < l.length
    · obtain ⟨ad, rfl, hcell⟩ := Kd.at_int hr k (by omega) (by omega)
      have hcell2 : wr.cell? (ad.add k) = some (.int .i64 (rd l k)) := by simpa using pw_cell_below hb hcell
      have hpk := hp (rd l k) wr hb
      clear hcell hp
      generalize hpp : p (rd l k) = q at hpk
      have Hpp := Lib.hid hpp; clear hpp
      cases q
      all_goals go_wp2_with ((with_reducible refine hpk.mono ?_); rintro e W' ⟨rfl, hb2⟩)
      · go_roundw
        case rel =>
          refine ⟨k + 1, by omega, by go_num, hb2, fun j hj => ?_⟩
          rcases Nat.lt_or_ge j k with h | h
          · exact Hno.out j h
          · obtain rfl : j = k := by omega
            exact Hpp.out
        case measure => simp [intOf]; omega
      · go_ret
        exact ⟨ret_int (idxI_at p l k hlt (by rw [← rd_get l k hlt]; exact Hpp.out) (fun j hj => by rw [← rd_get l j (by omega)]; exact Hno.out j hj)).symm, hb2⟩
    · go_wp2
      go_ret
      exact ⟨ret_int (idxI_neg p l (fun x hx => by obtain ⟨j, hj, rfl⟩ := List.mem_iff_getElem.1 hx; rw [← rd_get l j hj]; exact Hno.out j (by omega))).symm, hb⟩

set_option maxHeartbeats 400000 in
theorem containsFunc70 (g : Nat) (caps : Array Value) (A : Option Addr) (c : Nat) (l : List Int) (w : World) (p : Int → Bool)
    (hg0 : EntersF g)
    (hp : ∀ x W, Below w.heap.size w W → Calls Try.prog g (#[.int .i64 x] ++ caps) W fun e W' => e = .returned (.bool (p x)) ∧ Below w.heap.size w W')
    (hr : Kd.C (Kd.int .i64) w A l.length l) :
    Calls Try.prog 70 #[.slice A l.length c, .func (.func g) #[] caps] w fun e w' => e = .returned (.bool (l.any p)) ∧ Below w.heap.size w w' := by
  have hc := indexFunc84 g caps A c l w p hg0 hp hr
  clear hp
  go_enter Try.func70, Try.ntmps70
  go_wp2_with (go_at_call 84; refine hc.mono ?_; rintro e w' ⟨rfl, hb⟩)
  go_ret
  exact ⟨ret_bool (idxI_any p l), hb⟩

theorem enters71 : EntersF 71 := fun _ _ => by kernel_rfl

set_option maxHeartbeats 400000 in
theorem within42 (lo hi : Int) (A : Option Addr) (c : Nat) (l : List Int) (w : World) (hr : Kd.C (Kd.int .i64) w A l.length l) :
    Calls Try.prog 42 #[.int .i64 lo, .int .i64 hi, .slice A l.length c] w fun e w' => e = .returned (.bool (!l.any (fun n => decide (n < lo) || decide (hi < n)))) ∧ Below w.heap.size w w' := by
  have hc := containsFunc70 71 #[.pointer (some ⟨w.heap.size, 0, none⟩), .pointer (some ⟨w.heap.size + 1, 0, none⟩)] A c l ((w.alloc (.cells #[.int .i64 lo] 2)).alloc (.cells #[.int .i64 hi] 2)) (fun n => decide (n < lo) || decide (hi < n)) enters71
    (fun x W hb => (within1_any x lo hi _ _ W ((hb.cell (p := ⟨w.heap.size, 0, none⟩) (by simp; omega)).trans (by go_simp)) ((hb.cell (p := ⟨w.heap.size + 1, 0, none⟩) (by simp)).trans (by go_simp))).mono fun e W' ⟨he, hw⟩ => ⟨he, hw ▸ hb⟩)
    (Kd.C_alloc (Kd.C_alloc hr _) _)
  go_enter Try.func42, Try.ntmps42
  go_wp2_with (go_at_call 70; refine hc.mono ?_; rintro e w' ⟨rfl, hb⟩)
  go_ret
  exact ⟨rfl, (((Below.refl _ w).alloc (Nat.le_refl _) _).alloc (by simp) _).trans (hb.mono (by simp; omega))⟩

def within_ (lo hi : Int) (l : List Int) : Bool := !l.any (fun n => decide (n < lo) || decide (hi < n))
def late_within.f (a0 : Int) (a1 : Int) (l2 : List Int) : Option (Bool) := some (within_ a0 a1 l2)
theorem late_within.calls (a0 : Int) (a1 : Int) (A2 : Option Addr) (c2 : Nat) (l2 : List Int) (r : Bool) (w : World) (hr2 : Kd.C (Kd.int .i64) w A2 l2.length l2) (hc2 : l2.length ≤ c2) (h : late_within.f a0 a1 l2 = some r) :
    Calls Try.prog 42 #[.int .i64 a0, .int .i64 a1, .slice A2 l2.length c2] w fun e w' => e = .returned (.bool r) ∧ Below w.heap.size w w' := by
  injection h with h
  subst h
  exact within42 a0 a1 A2 c2 l2 w hr2

end Go.Proofs.Ytmlahfidnfdhbaa.Pr
