/- Lemmas for the laws of rack: H2, C1, B4, E1, E2. -/
import Derived.Test.YtpbemjdaanlaoaaN4
import Derived.Test.YtpbemjdaanlaoaaN2
import Derived.Test.YtpbemjdaanlaoaaN1
import Derived.ChangeKeysEq
import Derived.Lib.SliceRun
import Derived.Test.YtpbemjdaanlaoaaN0
set_option linter.unusedVariables false
set_option linter.unusedSimpArgs false
set_option linter.unusedVariables false
set_option linter.unusedSimpArgs false
namespace Go.Proofs.Ytpbemjdaanlaoaa.Pr
open Go.RowKit Go.Proofs.YtpbemjdaanlaoaaW.PrintWords Go.Proofs.YtpbemjdaanlaoaaW.PrintLast Go.Proofs.YtpbemjdaanlaoaaW.PrintMore
set_option maxRecDepth 100000

theorem rd_in (l : List (List Int)) (i p : Nat) : rd (rd_L1 l (i : Int)) (p : Int) = 0 ∨ rd (rd_L1 l (i : Int)) (p : Int) ∈ l.flatten := by
  by_cases hi : i < l.length
  · rw [rdL_get l i hi]
    by_cases hp : p < l[i].length
    · right
      rw [rd_get _ p hp]
      exact List.mem_flatten.mpr ⟨l[i], List.getElem_mem hi, List.getElem_mem hp⟩
    · left
      simp [rd, List.getElem?_eq_none (Nat.le_of_not_lt hp)]
  · left
    simp [rd, rd_L1, List.getD_eq_getElem?_getD, List.getElem?_eq_none (Nat.le_of_not_lt hi)]
theorem add_fits {l : List (List Int)} {hi by_ : Int} (h : within_ 1 hi l.flatten = true) (hh : hi ≤ 1000) (hb : 0 ≤ by_ ∧ by_ ≤ 1) (i p : Nat) : wrap64 (rd (rd_L1 l (i : Int)) (p : Int) + by_) = rd (rd_L1 l (i : Int)) (p : Int) + by_ := by
  rcases rd_in l i p with h1 | h1
  · rw [h1]; unfold wrap64; omega
  · have := within_true h _ h1
    unfold wrap64; omega
theorem rows_small {l : List (List Int)} {n : Nat} (h : ∀ r ∈ l, r.length ≤ n) (i : Nat) : (rd_L1 l (i : Int)).length ≤ n := by
  by_cases hi : i < l.length
  · rw [rdL_get l i hi]; exact h _ (List.getElem_mem hi)
  · simp [rd_L1, List.getD_eq_getElem?_getD, List.getElem?_eq_none (Nat.le_of_not_lt hi)]
theorem flat_small {l : List (List Int)} {n : Nat} (h : ∀ r ∈ l, r.length ≤ n) : l.flatten.length ≤ l.length * n := by
  induction l with
  | nil => simp
  | cons a t ih =>
    have h1 := ih fun r hr => h r (List.mem_cons_of_mem _ hr)
    have h2 := h a List.mem_cons_self
    rw [List.flatten_cons, List.length_append, List.length_cons, Nat.succ_mul]
    omega

/-- great -/
theorem great_loop (l : List (List Int)) (hl : l.length ≤ 1000) : ∀ d j, l.length - j = d → j ≤ l.length → ∀ m : Int, ∃ b, Ev (fun k => fipplelaw08_great.l0 k l m (j : Int)) b ∧ (b = false → m ≤ 20 ∧ ∀ i, j ≤ i → i < l.length → (rd_L1 l (i : Int)).length ≤ 20) := by
  intro d
  induction d with
  | zero =>
    intro j h1 h2 m
    obtain rfl : j = l.length := by omega
    refine ⟨decide (m > 20), Ev.step (f := fun _ => some (decide (m > 20))) (fun k => ?_) (Ev.now _), fun h => ⟨by simpa using h, fun i h3 h4 => by omega⟩⟩
    simp only [fipplelaw08_great.l0]
    rw [if_neg (by omega)]
  | succ d ih =>
    intro j h1 h2 m
    have hj : j < l.length := by omega
    obtain ⟨b, h3, h4⟩ := ih (j + 1) (by omega) (by omega) (mx m ((rd_L1 l (j : Int)).length : Int))
    refine ⟨b, Ev.step (f := fun k => fipplelaw08_great.l0 k l (mx m ((rd_L1 l (j : Int)).length : Int)) ((j + 1 : Nat) : Int)) (fun k => ?_) h3, fun hb => ?_⟩
    · simp only [fipplelaw08_great.l0]
      rw [if_pos (by omega), if_pos (by omega), w1_ j (by omega)]
    · obtain ⟨h5, h6⟩ := h4 hb
      unfold mx at h5
      refine ⟨by split at h5 <;> omega, fun i h7 h8 => ?_⟩
      by_cases hij : i = j
      · subst hij
        split at h5 <;> omega
      · exact h6 i (by omega) h8
theorem great_ev (l : List (List Int)) : ∃ b, Ev (fun k => fipplelaw08_great.f k l) b ∧ (b = false → l.length ≤ 20 ∧ ∀ r ∈ l, r.length ≤ 20) := by
  by_cases h : 20 < l.length
  · refine ⟨true, Ev.congr (f := fun _ => some true) (fun k => ?_) (Ev.now _), fun h => by cases h⟩
    simp only [fipplelaw08_great.f]
    rw [if_pos (by omega)]
  · obtain ⟨b, h1, h2⟩ := great_loop l (by omega) l.length 0 (by omega) (by omega) 0
    refine ⟨b, Ev.congr (f := fun k => fipplelaw08_great.l0 k l 0 ((0 : Nat) : Int)) (fun k => ?_) h1, fun hb => ⟨by omega, fun r hr => ?_⟩⟩
    · simp only [fipplelaw08_great.f]
      rw [if_neg (by omega)]
      rfl
    · obtain ⟨i, hi, rfl⟩ := List.mem_iff_getElem.mp hr
      have := (h2 hb).2 i (by omega) hi
      rw [rdL_get l i hi] at this
      exact this

/-- Same of a list with itself -/
theorem sameI_loop (xs : List Int) (hs : xs.length ≤ 1000) : ∀ d j, xs.length - j = d → j ≤ xs.length → Ev (fun k => fippleref08_Same.l0 k xs xs (j : Int)) true := by
  intro d
  induction d with
  | zero =>
    intro j h1 h2
    refine Ev.step (f := fun _ => some true) (fun k => ?_) (Ev.now _)
    simp only [fippleref08_Same.l0]
    rw [if_neg (by omega)]
  | succ d ih =>
    intro j h1 h2
    refine Ev.step (f := fun k => fippleref08_Same.l0 k xs xs ((j + 1 : Nat) : Int)) (fun k => ?_) (ih (j + 1) (by omega) (by omega))
    simp only [fippleref08_Same.l0]
    rw [if_pos (by omega), if_pos (by omega), if_pos (by omega), if_pos trivial, w1_ j (by omega)]
theorem intsI_ev (xs : List Int) (hs : xs.length ≤ 1000) : Ev (fun k => fipplelaw08_Ints.f k xs xs) true := by
  have h : Ev (fun k => fippleref08_Same.f k xs xs) true := by
    refine Ev.congr (f := fun k => fippleref08_Same.l0 k xs xs ((0 : Nat) : Int)) (fun k => ?_) (sameI_loop xs hs xs.length 0 rfl (by omega))
    simp only [fippleref08_Same.f, if_true]
    rfl
  exact Ev.bind h (Ev.now _)
theorem sameR_loop (xs : List (List Int)) (hs : xs.length ≤ 1000) (hr : ∀ r ∈ xs, r.length ≤ 1000) : ∀ d j, xs.length - j = d → j ≤ xs.length → Ev (fun k => fipplelaw08_Same.l0 k xs xs (j : Int)) true := by
  intro d
  induction d with
  | zero =>
    intro j h1 h2
    refine Ev.step (f := fun _ => some true) (fun k => ?_) (Ev.now _)
    simp only [fipplelaw08_Same.l0]
    rw [if_neg (by omega)]
  | succ d ih =>
    intro j h1 h2
    refine Ev.step (f := fun k => (fipplelaw08_Ints.f k (rd_L1 xs (j : Int)) (rd_L1 xs (j : Int))).bind fun t107 => (if t107 = true then (fipplelaw08_Same.l0 k xs xs ((j + 1 : Nat) : Int)) else (some false))) (fun k => ?_) (Ev.bind (intsI_ev _ (rows_small hr j)) ?_)
    · simp only [fipplelaw08_Same.l0]
      rw [if_pos (by omega), if_pos (by omega), if_pos (by omega), w1_ j (by omega)]
    · exact ih (j + 1) (by omega) (by omega)
theorem sameR_ev (xs : List (List Int)) (hs : xs.length ≤ 1000) (hr : ∀ r ∈ xs, r.length ≤ 1000) : Ev (fun k => fipplelaw08_Same.f k xs xs) true := by
  refine Ev.congr (f := fun k => fipplelaw08_Same.l0 k xs xs ((0 : Nat) : Int)) (fun k => ?_) (sameR_loop xs hs hr xs.length 0 rfl (by omega))
  simp only [fipplelaw08_Same.f, if_true]
  rfl

/-- the scope of the numbers -/
def inB (hi : Int) (l : List Int) (j : Nat) (b : Bool) : Prop := b = true ↔ ∀ i : Nat, j ≤ i → i < l.length → 1 ≤ rd l (i : Int) ∧ rd l (i : Int) ≤ hi
theorem inB_within (hi : Int) (l : List Int) : inB hi l 0 (within_ 1 hi l) := by
  constructor
  · intro h i _ h2
    rw [rd_get l i h2]
    exact within_true h _ (List.getElem_mem h2)
  · intro h
    simp only [within_, Bool.not_eq_true', List.any_eq_false, Bool.or_eq_true, decide_eq_true_eq]
    intro x hx
    obtain ⟨i, hi', rfl⟩ := List.mem_iff_getElem.mp hx
    have := h i (by omega) hi'
    rw [rd_get l i hi'] at this
    omega
theorem inB_next {hi : Int} {l : List Int} {j : Nat} {b : Bool} (h : inB hi l j b) (hx : 1 ≤ rd l (j : Int) ∧ rd l (j : Int) ≤ hi) : inB hi l (j + 1) b := by
  refine h.trans ⟨fun h i h1 => h i (by omega), fun h i h1 h2 => ?_⟩
  by_cases hij : i = j
  · subst hij; exact hx
  · exact h i (by omega) h2
theorem inB_no {hi : Int} {l : List Int} {j : Nat} {b : Bool} (h : inB hi l j b) (hj : j < l.length) (hx : ¬ (1 ≤ rd l (j : Int) ∧ rd l (j : Int) ≤ hi)) : b = false := by
  cases hb : b with
  | false => rfl
  | true => exact absurd (h.mp hb j (Nat.le_refl _) hj) hx

theorem rackScope (l : List (List Int)) (fl : List Int) (hf : fl.length ≤ 1000) (b : Bool) (R : Int) (hR : b = true → Ev (fun k => (fippleref08_shaped.f k l).bind fun t523 => (if t523 = true then ((fippleref08_increasing.f k l 0).bind fun t524 => (if t524 = true then (some (0 : Int)) else (some 22))) else (some 22))) R) :
    ∀ d j, fl.length - j = d → j ≤ fl.length → inB 99 fl j b → Ev (fun k => fippleref08_CheckRack.l0 k l fl (j : Int)) (if b = false then 3 else R) := by
  intro d
  induction d with
  | zero =>
    intro j h1 h2 hb
    obtain rfl : b = true := hb.mpr fun i h3 h4 => by omega
    refine Ev.step (f := fun k => (fippleref08_shaped.f k l).bind fun t523 => (if t523 = true then ((fippleref08_increasing.f k l 0).bind fun t524 => (if t524 = true then (some (0 : Int)) else (some 22))) else (some 22))) (fun k => ?_) (by rw [if_neg (by decide)]; exact hR rfl)
    simp only [fippleref08_CheckRack.l0]
    rw [if_neg (by omega)]
  | succ d ih =>
    intro j h1 h2 hb
    have hj : j < fl.length := by omega
    by_cases hx : 1 ≤ rd fl (j : Int) ∧ rd fl (j : Int) ≤ 99
    · refine Ev.step (f := fun k => fippleref08_CheckRack.l0 k l fl ((j + 1 : Nat) : Int)) (fun k => ?_) (ih (j + 1) (by omega) (by omega) (inB_next hb hx))
      simp only [fippleref08_CheckRack.l0]
      rw [if_pos (by omega), if_pos (by omega), if_neg (by omega), if_neg (by omega), w1_ j (by omega)]
    · obtain rfl := inB_no hb hj hx
      refine Ev.step (f := fun _ => some (3 : Int)) (fun k => ?_) (Ev.now _)
      simp only [fippleref08_CheckRack.l0]
      rw [if_pos (by omega), if_pos (by omega)]
      by_cases h0 : rd fl (j : Int) < 1
      · rw [if_pos h0]
      · rw [if_neg h0, if_pos (by omega)]
theorem refRack_ev (l : List (List Int)) (hl : l.length ≤ 20) (hr : ∀ r ∈ l, r.length ≤ 20) : Ev (fun k => fippleref08_CheckRack.f k l) (rkC l) := by
  have hfl := flat_small hr
  have hf : l.flatten.length ≤ 400 := by omega
  refine Ev.bind (all_ev l (by omega) (by omega)) ?_
  unfold rkC
  by_cases h12 : 12 < l.flatten.length
  · refine Ev.congr (f := fun _ => some (6 : Int)) (fun k => if_pos (by omega)) ?_
    rw [if_pos h12]
    exact Ev.now _
  · refine Ev.congr (f := fun k => fippleref08_CheckRack.l0 k l l.flatten ((0 : Nat) : Int)) (fun k => if_neg (by omega)) ?_
    rw [if_neg h12]
    exact rackScope l l.flatten (by omega) _ _ (fun hb => tail_ev l 0 (by omega) (fun i => Nat.le_trans (rows_small hr i) (by omega)) (fun i p => add_fits hb (by omega) (by omega) i p)) l.flatten.length 0 rfl (by omega) (inB_within 99 l.flatten)

/-- doubled numbers -/
def neB (l : List Int) (j : Nat) (b : Bool) : Prop := b = true ↔ ∀ i : Nat, j ≤ i → i < l.length → rd l (i : Int) ∉ l.take i
theorem nodup_take (l : List Int) : l.Nodup ↔ ∀ i : Nat, i < l.length → rd l (i : Int) ∉ l.take i := by
  constructor
  · intro h i hi hm
    rw [rd_get l i hi] at hm
    obtain ⟨k, hk, he⟩ := List.mem_iff_getElem.mp hm
    rw [List.length_take] at hk
    rw [List.getElem_take] at he
    rw [List.nodup_iff_pairwise_ne, List.pairwise_iff_getElem] at h
    exact h k i (by omega) hi (by omega) he
  · intro h
    rw [List.nodup_iff_pairwise_ne, List.pairwise_iff_getElem]
    intro i j hi hj hij he
    refine h j hj ?_
    rw [rd_get l j hj, ← he]
    refine List.mem_iff_getElem.mpr ⟨i, by rw [List.length_take]; omega, ?_⟩
    rw [List.getElem_take]
theorem neB_nodup (l : List Int) : neB l 0 (decide l.Nodup) := by
  unfold neB
  rw [decide_eq_true_iff, nodup_take]
  exact ⟨fun h i _ => h i, fun h i => h i (by omega)⟩
theorem any_mem (l : List Int) (x : Int) : (l.any fun n => n == x) = true ↔ x ∈ l := by simp

theorem orderNe (l : List (List Int)) (fl : List Int) (hf : fl.length ≤ 1000) (b : Bool) (R : Int) (hR : Ev (fun k => (fippleref08_shaped.f k l).bind fun t523 => (if t523 = true then ((fippleref08_increasing.f k l 1).bind fun t524 => (if t524 = true then (some (0 : Int)) else (some 22))) else (some 22))) R) :
    ∀ d j, fl.length - j = d → j ≤ fl.length → neB fl j b → Ev (fun k => fippleref08_CheckOrder.l1 k l fl (j : Int)) (if b = false then 11 else R) := by
  intro d
  induction d with
  | zero =>
    intro j h1 h2 hb
    obtain rfl : b = true := hb.mpr fun i h3 h4 => by omega
    refine Ev.step (f := fun k => (fippleref08_shaped.f k l).bind fun t523 => (if t523 = true then ((fippleref08_increasing.f k l 1).bind fun t524 => (if t524 = true then (some (0 : Int)) else (some 22))) else (some 22))) (fun k => ?_) (by rw [if_neg (by decide)]; exact hR)
    simp only [fippleref08_CheckOrder.l1]
    rw [if_neg (by omega)]
  | succ d ih =>
    intro j h1 h2 hb
    have hj : j < fl.length := by omega
    refine Ev.step (f := fun k => (fippleref08_Has.f k (fl.take j) (rd fl (j : Int))).bind fun t535 => (if t535 = true then (some (11 : Int)) else (fippleref08_CheckOrder.l1 k l fl ((j + 1 : Nat) : Int)))) (fun k => ?_) (Ev.bind (has_ev (fl.take j) (rd fl (j : Int)) (by rw [List.length_take]; omega)) ?_)
    · simp only [fippleref08_CheckOrder.l1]
      rw [if_pos (by omega), if_pos (by omega), if_pos (by omega), w1_ j (by omega)]
      rfl
    · by_cases hm : rd fl (j : Int) ∈ fl.take j
      · rw [(any_mem _ _).mpr hm]
        obtain rfl : b = false := by
          cases hbb : b with
          | false => rfl
          | true => exact absurd hm (hb.mp hbb j (Nat.le_refl _) hj)
        exact Ev.now _
      · have hn : ((fl.take j).any fun n => n == rd fl (j : Int)) = false := by
          cases hh : ((fl.take j).any fun n => n == rd fl (j : Int)) with
          | false => rfl
          | true => exact absurd ((any_mem _ _).mp hh) hm
        rw [hn]
        refine ih (j + 1) (by omega) (by omega) (hb.trans ⟨fun h i h3 => h i (by omega), fun h i h3 h4 => ?_⟩)
        by_cases hij : i = j
        · subst hij; exact hm
        · exact h i (by omega) h4
theorem orderScope (l : List (List Int)) (fl : List Int) (hf : fl.length ≤ 1000) (b : Bool) (R : Int) (hR : b = true → Ev (fun k => fippleref08_CheckOrder.l1 k l fl ((0 : Nat) : Int)) R) :
    ∀ d j, fl.length - j = d → j ≤ fl.length → inB (fl.length : Int) fl j b → Ev (fun k => fippleref08_CheckOrder.l0 k l fl (j : Int)) (if b = false then 3 else R) := by
  intro d
  induction d with
  | zero =>
    intro j h1 h2 hb
    obtain rfl : b = true := hb.mpr fun i h3 h4 => by omega
    refine Ev.step (f := fun k => fippleref08_CheckOrder.l1 k l fl ((0 : Nat) : Int)) (fun k => ?_) (by rw [if_neg (by decide)]; exact hR rfl)
    simp only [fippleref08_CheckOrder.l0]
    rw [if_neg (by omega)]
    rfl
  | succ d ih =>
    intro j h1 h2 hb
    have hj : j < fl.length := by omega
    by_cases hx : 1 ≤ rd fl (j : Int) ∧ rd fl (j : Int) ≤ (fl.length : Int)
    · refine Ev.step (f := fun k => fippleref08_CheckOrder.l0 k l fl ((j + 1 : Nat) : Int)) (fun k => ?_) (ih (j + 1) (by omega) (by omega) (inB_next hb hx))
      simp only [fippleref08_CheckOrder.l0]
      rw [if_pos (by omega), if_pos (by omega), if_neg (by omega), if_neg (by omega), w1_ j (by omega)]
    · obtain rfl := inB_no hb hj hx
      refine Ev.step (f := fun _ => some (3 : Int)) (fun k => ?_) (Ev.now _)
      simp only [fippleref08_CheckOrder.l0]
      rw [if_pos (by omega), if_pos (by omega)]
      by_cases h0 : rd fl (j : Int) < 1
      · rw [if_pos h0]
      · rw [if_neg h0, if_pos (by omega)]
theorem refOrder_ev (l : List (List Int)) (hl : l.length ≤ 20) (hr : ∀ r ∈ l, r.length ≤ 20) : Ev (fun k => fippleref08_CheckOrder.f k l) (orC l) := by
  have hfl := flat_small hr
  have hf : l.flatten.length ≤ 400 := by omega
  refine Ev.bind (all_ev l (by omega) (by omega)) ?_
  unfold orC
  by_cases h12 : 12 < l.flatten.length
  · refine Ev.congr (f := fun _ => some (6 : Int)) (fun k => if_pos (by omega)) ?_
    rw [if_pos h12]
    exact Ev.now _
  · refine Ev.congr (f := fun k => fippleref08_CheckOrder.l0 k l l.flatten ((0 : Nat) : Int)) (fun k => if_neg (by omega)) ?_
    rw [if_neg h12]
    refine orderScope l l.flatten (by omega) _ _ (fun hb => ?_) l.flatten.length 0 rfl (by omega) (inB_within _ l.flatten)
    have h := orderNe l l.flatten (by omega) (decide l.flatten.Nodup) _ (tail_ev l 1 (by omega) (fun i => Nat.le_trans (rows_small hr i) (by omega)) (fun i p => add_fits hb (by omega) (by omega) i p)) l.flatten.length 0 rfl (by omega) (neB_nodup _)
    by_cases hn : l.flatten.Nodup
    · rw [decide_eq_true hn] at h
      rw [if_neg (fun h => (kinds_iff _).mp h hn)]
      exact h
    · rw [decide_eq_false hn] at h
      rw [if_pos ((kinds_iff _).mpr hn)]
      exact h
end Go.Proofs.Ytpbemjdaanlaoaa.Pr
set_option linter.unusedVariables false
set_option linter.unusedSimpArgs false
namespace Go.Proofs.Ytpbemjdaanlaoaa.Pr
open Go.RowKit Go.Proofs.YtpbemjdaanlaoaaW.PrintWords Go.Proofs.YtpbemjdaanlaoaaW.PrintLast Go.Proofs.YtpbemjdaanlaoaaW.PrintMore
open Go.Maps
set_option maxRecDepth 100000

set_option maxHeartbeats 4000000 in
theorem take54o (O : Nat → Prop) (base g bm n : Nat) (D : DataW Unit) (v : Value) (rows : List (List Int)) (row : Nat) (w : World) (hSt : StandO O w base g bm n D v rows) (hbw : base ≤ w.heap.size) (hrl : rows.length ≤ 100) (hn : n ≤ 100000) (hwf : okR rows)
    (hrow : row < rows.length) (hne : 0 < (rd_L1 rows (row : Int)).length) (hG : ∀ j, j < row → 0 < geIdx (rd_L1 (takeS (take0 rows row) (takeU rows row) row j).1 ((row - 1 - j : Nat) : Int)) (takeS (take0 rows row) (takeU rows row) row j).2) :
    Calls Try.prog 54 #[.pointer (some ⟨g, 0, none⟩), .int .i64 (row : Int)] w fun e w' => ∃ n' D' v', e = .returned (.int .i64 (takeL rows row).2) ∧ StandO (ext O w.heap.size) w' base g bm n' D' v' (takeL rows row).1 ∧ n' ≤ n + rows.length + 1 ∧ Kpt O w w' := by
  have hu69 := Try.underlying69
  have hu71 := Try.underlying71
  have hu68 := Try.underlying68
  have hu90 := Try.underlying90
  have hgs := blk_lt hSt.blk
  obtain ⟨es0, cl0, hbm0⟩ := hSt.toAt.mapObj
  obtain ⟨P, hP⟩ : ∃ P, P = ext O w.heap.size := ⟨_, rfl⟩
  have hPO : ∀ k, O k → P k := fun k hk => by rw [hP]; exact .inl hk
  have hPn : ∀ k, w.heap.size ≤ k → P k := fun k hk => by rw [hP]; exact .inr hk
  have hPe : ∀ k, P k → ext O w.heap.size k := fun k hk => by rw [hP] at hk; exact hk
  have hbms := blk_lt hbm0
  obtain ⟨u0, hu0⟩ : ∃ u, u = takeU rows row := ⟨_, rfl⟩
  have hX0 : StandX P (w.alloc (.cells #[.int .i64 u0] 3)) base w.heap.size g bm n u0 D v rows :=
    ⟨blk_alloc hSt.blk _, hSt.gb, hSt.bb, hbw, hPO _ hSt.og, hPO _ hSt.ob, hPn _ (Nat.le_refl _), Kd.S_alloc (Kd.S_mono (Kd.S_bound hSt.row) (fun k hk => ⟨⟨by have := hk.2.2.1; omega, fun e => by obtain ⟨_, _, _, q, hq, cells, hc⟩ := hk; rw [e, hbm0] at hc; cases hc⟩, hPO _ hk.1⟩)) _, ownsMap_below hSt.own (below_alloc (Below.refl _ _) _), heap_alloc_new _ _⟩
  obtain ⟨hc0, hc1, hc2⟩ := hSt.toAt.hv
  obtain ⟨go, cap, vk, rfl, q1x, oki, hR, hoki, hH⟩ := hX0.lend row hrow
  obtain ⟨Ak, ck, rfl, hck, hCk⟩ := Kd.R_reads hR
  have hcapn := (Kd.S_reads' hX0.row).1
  have hcap2 := (Kd.S_reads' hX0.row).2.1
  -- the last one of the row
  obtain ⟨l, hl⟩ : ∃ l, l = rd_L1 rows (row : Int) := ⟨_, rfl⟩
  rw [← hl] at hR hCk hck hH q1x hne
  obtain ⟨last, hlast⟩ : ∃ last, last = l.length - 1 := ⟨_, rfl⟩
  have hll : l.length ≤ 1000 := by rw [hl]; exact (okR_at hwf hrow).1
  have hu1 : u0 = rd l (last : Int) := by rw [hu0, hlast, hl]; rfl
  obtain ⟨ad, A1, c1, hv1, q1w, _, q2⟩ := at_L1 (Kd.S_reads' hSt.row).2.2 (row : Int) (by omega) (by omega)
  injection hv1 with hv1
  subst hv1
  rw [Int.toNat_natCast, ← hl] at q1w
  have q1x' := cell_al (.cells #[.int .i64 u0] 3) q1w
  have e9 : (⟨go, 0, none⟩ : Addr).add row = ⟨go, row, none⟩ := by unfold Addr.add; split <;> simp_all
  rw [e9] at q1x' q1w
  rw [q1x] at q1x'
  injection q1x' with q1x'
  injection q1x' with h1 _ h2
  subst h1 h2
  rw [← hl] at q2
  obtain ⟨al, hal, q3w⟩ := Kd.at_int q2 (last : Int) (by omega) (by omega)
  subst hal
  rw [Int.toNat_natCast, ← hu1] at q3w
  have hl1 : l.length = last + 1 := by clear hX0 hSt; omega
  have hlast2 : last ≤ 1000 := by clear hX0 hSt hck; omega
  have hlck : last + 1 ≤ ck := by rw [← hl1]; exact hck
  rw [hl1] at q1w
  have hrc : ((row : Nat) : Int) ≤ (rows.length : Int) := by omega
  have hB0 : Kpt O w (w.alloc (.cells #[.int .i64 u0] 3)) := (Kpt.refl O w).alloc _
  have q1 := cell_al (.cells #[.int .i64 u0] 3) q1w
  obtain ⟨x0, x1, x2, x3, x4⟩ := hX0.cells
  obtain ⟨hfr, _, hgo, hX1⟩ := hX0.cut hrow hR hoki hH (m := last) (by omega)
  have HX1 := Lib.hid hX1; have HST := Lib.hid hSt; have HB0 := Lib.hid hB0; have HGO := Lib.hid hgo; clear hgo hB0
  have HWF := Lib.hid hwf; have HG := Lib.hid hG; have HPN := Lib.hid hPn; have HPE := Lib.hid hPe; have HP := Lib.hid hP
  clear hPO hPn hPe hP
  have HL := Lib.hid hl; have HU := Lib.hid hu0; have HLAST := Lib.hid hlast; have HU1 := Lib.hid hu1; have HL1 := Lib.hid hl1
  clear hX0 hX1 hSt hc2 hbm0 hwf hR hoki hH hCk hck q1x q2 hG hl hu0 hu1 hcapn hl1 hlast hll hne
  go_enter Try.func54, Try.ntmps54
  go_wp2
  clear hc0 hc1 q1w q3w hrc e9
  generalize (w.alloc (.cells #[.int .i64 u0] 3)) = W1 at *
  go_region
  have HX2 := Lib.hid (HX1.out.below ((Below.refl _ _).drew))
  have HB2 := Lib.hid ((HB0.out.setCell (p := ⟨go, row, none⟩) (HPE.out _ HGO.out) (.slice (some al) last ck)).drew)
  clear q1 x0 x1 x2 x3 x4 hfr HX1 HB0
  generalize (W1.setCell ⟨go, row, none⟩ (.slice (some al) last ck)).drew = W2 at *
  have hkr : wfi (row : Int) := wfi_of (by omega)
  have hkl : wfi (last : Int) := wfi_of (by omega)
  obtain ⟨W3, hrun, hown3, hturn⟩ := HX2.out.own.drop law90 Try.underlying69 (kp_key hkr hkl) 0
  have HZ2 : Hid (w.heap.size < W2.heap.size) := blk_lt HX2.out.box
  have HX3 := Lib.hid (HX2.out.turn hturn.grown hown3)
  have HB3 := Lib.hid (HB2.out.grown hturn.grown (fun k e => by cases e; exact HPE.out _ HX2.out.ob))
  have HZ3 : Hid (w.heap.size < W3.heap.size) := blk_lt HX3.out.box
  clear hkr hkl hown3 hturn HB2 HZ2
  obtain ⟨R0, hR0⟩ : ∃ R0, R0 = take0 rows row := ⟨_, rfl⟩
  have hR0l := take0_len rows row hrow
  rw [← hR0] at hR0l
  have HR0 := Lib.hid hR0; have HR0L := Lib.hid hR0l
  have hR0ok := take0_ok HWF.out row hrow
  rw [← hR0] at hR0ok
  have HROK := Lib.hid hR0ok
  have huw : wfi u0 := by rw [HU.out]; exact rd_wfi (okR_at HWF.out hrow).2 _
  have HUW := Lib.hid huw
  clear hR0 hR0l hR0ok huw
  obtain ⟨x0, x1, x2, _, _⟩ := HX2.out.cells
  obtain ⟨y0, y1, y2, y3, y4⟩ := HX3.out.cells
  have hrc : row ≤ cap := by omega
  go_wp2
  · rename (((last : Int) == 0) = true) => ht
    have h0 : last = 0 := by simpa using ht
    have HT0 := Lib.hid h0
    clear ht h0
    clear hrun x0 x1 x2 y0 y1 y2 y3 y4
    have hX4 := HX3.out.head (Kd.S_take HX3.out.row (m := row) (by rw [List.length_set]; omega))
    have hB4 := HB3.out.setCell (p := ⟨g, 0, none⟩) (HPE.out _ HX3.out.og) (.slice (some ⟨go, 0, none⟩) row cap)
    have e4 : (rows.set row (l.take last)).take row = R0 := by rw [HR0.out]; unfold take0; rw [← HL.out, ← HLAST.out, if_pos HT0.out]
    have e5 : row = R0.length := by rw [← e4]; simp; omega
    rw [e4] at hX4
    clear HX3 HB3 HX2
    generalize W3.setCell ⟨g, 0, none⟩ (.slice (some ⟨go, 0, none⟩) row cap) = W4 at *
    rw [show (Value.slice (some ⟨go, 0, none⟩) row cap) = (Value.slice (some ⟨go, 0, none⟩) R0.length cap) by rw [← e5]] at hX4
    have HX4 := Lib.hid hX4; have HB4 := Lib.hid hB4
    clear hX4 hB4
    have HZ4 : Hid (w.heap.size < W4.heap.size) := blk_lt HX4.out.box
    clear e4 e5
    go_loopw [7] (fun i wr => ∃ (j n' : Nat) (D' : DataW Unit), j ≤ row ∧ i = .int .i64 ((row : Int) - 1 - (j : Int)) ∧ Hid (StandX P wr base w.heap.size g bm n' (takeS R0 u0 row j).2 D' (.slice (some ⟨go, 0, none⟩) R0.length cap) (takeS R0 u0 row j).1) ∧ n' ≤ n + j ∧ Hid (Kpt O w wr) ∧ Hid (w.heap.size < wr.heap.size)) (fun i _ => (intOf i + 1).toNat)
    case atStart =>
      exact ⟨0, n, _, Nat.zero_le _, by simp, HX4, Nat.le_refl _, HB4, HZ4⟩
    case round =>
      obtain ⟨j, n', D', hj, rfl, HX, hn', HB, HZ⟩ := hrel
      have hlenj := takeS_len R0 u0 row j
      have hwj := takeS_ok HROK.out HUW.out HR0L.out.1 j hj
      by_cases hlt : j < row
      · obtain ⟨ii, hii⟩ : ∃ ii, ii = row - 1 - j := ⟨_, rfl⟩
        have hz : (row : Int) - 1 - (j : Int) = (ii : Int) := by omega
        rw [hz]
        have hG1 : 0 < geIdx (rd_L1 (takeS R0 u0 row j).1 (ii : Int)) (takeS R0 u0 row j).2 := by rw [hii, HR0.out, HU.out]; exact HG.out j hlt
        have hT1 : takeS R0 u0 row (j + 1) = ((takeS R0 u0 row j).1.set ii ((rd_L1 (takeS R0 u0 row j).1 (ii : Int)).set (geIdx (rd_L1 (takeS R0 u0 row j).1 (ii : Int)) (takeS R0 u0 row j).2 - 1) (takeS R0 u0 row j).2), rd (rd_L1 (takeS R0 u0 row j).1 (ii : Int)) ((geIdx (rd_L1 (takeS R0 u0 row j).1 (ii : Int)) (takeS R0 u0 row j).2 - 1 : Nat) : Int)) := by rw [hii]; rfl
        have hiiR : ii < (takeS R0 u0 row j).1.length := by rw [hlenj]; have := HR0L.out.1; omega
        have hiib : ii < R0.length := by have := HR0L.out.1; omega
        have hii100 : ii ≤ 100 := by have := HR0L.out.2; omega
        have HII := Lib.hid hii; have HZE := Lib.hid hz; have HT1 := Lib.hid hT1
        clear hii hz hT1
        obtain ⟨go2, cap2, vk2, hv2, q1, oki, hR, hoki, hH⟩ := HX.out.lend ii hiiR
        injection hv2 with hv1 hv2' hv3
        injection hv1 with hv1
        injection hv1 with hv1
        subst hv1 hv3
        clear hv2'
        obtain ⟨Ak, ck2, rfl, hck, hCk⟩ := Kd.R_reads hR
        obtain ⟨x0, x1, x2, x3, x4⟩ := HX.out.cells
        have HR := Lib.hid hR; have HH := Lib.hid hH; have HOK := Lib.hid hoki; have HC := Lib.hid hCk
        clear hR hH hoki hCk
        generalize hs : takeS R0 u0 row j = s at *
        obtain ⟨R, tt⟩ := s
        have HW := Lib.hid hwj.2; have HOR := Lib.hid hwj.1; clear hwj
        simp only at hlenj hiiR hG1 q1 hck x3
        obtain ⟨l2, hl2⟩ : ∃ l2, l2 = rd_L1 R (ii : Int) := ⟨_, rfl⟩
        have HROW := Lib.hid hl2
        simp only [← hl2] at HR HC hck q1 HH hG1 HT1
        obtain ⟨q, hq⟩ : ∃ q, geIdx l2 tt = q + 1 := ⟨geIdx l2 tt - 1, by omega⟩
        have hql : q < l2.length := by have := geIdx_le l2 tt; omega
        have hllb : l2.length ≤ 1000 := by rw [hl2]; exact (okR_at HOR.out hiiR).1
        have HS := Lib.hid hs; have HLK := Lib.hid hlenj; have HQ := Lib.hid hq
        clear hs hlenj hl2 hG1
        go_wp2_with (go_at_call 83; refine (findGe w.heap.size tt Ak ck2 l2 wr x3 HC.out).mono ?_; rintro e w1 ⟨rfl, hb1⟩; rw [HQ.out]; have HB1 := Lib.hid hb1; have y1 := pw_cell_below hb1 x1; have y0 := pw_cell_below hb1 x0; have y3 := pw_cell_below hb1 x3; clear hb1)
        have hX1 := (HX.out.below HB1.out).below (w1 := w1.drew) ((Below.refl _ _).drew)
        have hnl : n' < maxLen := by unfold maxLen; omega
        have hk1 : wfi (ii : Int) := wfi_of (by omega)
        have ha1 : wfi (q : Int) := wfi_of (by omega)
        obtain ⟨W5, hrun, hown5, hturn⟩ := hX1.own.store law90 Try.underlying69 hnl (kp_key hk1 ha1) (plainElem_int (q := .i64) (H := Unit) Try.underlying3 (show (Lit.int .i64 tt).wf = true from HW.out))
        have hX5 := hX1.turn hturn.grown hown5
        have hR5 := Kd.R_grown (Kd.R_drew (Kd.R_below HR.out HB1.out)) hturn.grown (fun q hq e => (HOK.out q hq).1.1.2 (by injection e))
        have hH5 := Kd.H_other (Kd.H_drew (Kd.H_below HH.out HB1.out)) hturn.grown (fun q hq e => hq.1.2 (by injection e))
        have hB5 := ((HB.out.below HB1.out).drew).grown hturn.grown (fun k e => by cases e; exact HPE.out _ hX1.ob)
        have hZ5 : w.heap.size < W5.heap.size := blk_lt hX5.box
        have HX5 := Lib.hid hX5; have HR5 := Lib.hid hR5; have HH5 := Lib.hid hH5; have HB5 := Lib.hid hB5; have HZ5 := Lib.hid hZ5
        clear hX1 hk1 ha1 hown5 hturn hX5 hR5 hH5 hB5 hZ5 hnl
        go_region
        clear hrun y0 y1 y3 x0 x1 x2 x3 x4 q1
        obtain ⟨x0, x1, x2, x3, x4⟩ := HX5.out.cells
        obtain ⟨gi, ci, hvi, hgi, _⟩ := Kd.R_form HR5.out (by omega)
        injection hvi with hv1 _ hv3
        subst hv1 hv3
        have hgB : gi ≠ w.heap.size ∧ gi ≠ bm := (HOK.out gi (HR5.out.1 gi (by simp [Value.ownBlock]))).1.1
        have HGP := Lib.hid (HOK.out gi (HR5.out.1 gi (by simp [Value.ownBlock]))).1.2
        obtain ⟨z1, z2⟩ := Kd.R_celln (0 : Int) HR5.out (q : Int) (by omega) (by omega)
        rw [Int.toNat_natCast] at z1 z2
        have z1' : W5.cell? ⟨gi, q, none⟩ = some (.int .i64 (rd l2 (q : Int))) := z1
        have hgB1 := hgB.1
        have hgB2 : w.heap.size ≠ gi := fun e => hgB1 e.symm
        clear z1
        have HT2 : Hid (takeS R0 u0 row (j + 1) = (R.set ii (l2.set q tt), rd l2 (q : Int))) := by
          show _ = _
          rw [HT1.out, HQ.out]; rfl
        have HX4' := Lib.hid ((HX5.out.bump (k := ii) hiiR HR5.out (fun q hq => (HOK.out q hq).1.1) HH5.out q tt (rd l2 (q : Int))).below ((Below.refl _ _).drew))
        have HB4' := Lib.hid (((HB5.out.setCell (p := ⟨gi, q, none⟩) (HPE.out _ HGP.out) (.int .i64 tt)).setCell (p := ⟨w.heap.size, 0, none⟩) (.inr (Nat.le_refl _)) (.int .i64 (rd l2 (q : Int)))).drew)
        have HZ4' : Hid (w.heap.size < ((W5.setCell ⟨gi, q, none⟩ (.int .i64 tt)).setCell ⟨w.heap.size, 0, none⟩ (.int .i64 (rd l2 (q : Int)))).drew.heap.size) := by
          show _ < _
          have := HZ5.out
          simpa [World.setCell, World.drew] using this
        clear hgi hgB
        go_wp2
        go_region
        go_wp2
        go_roundw
        case rel =>
          refine ⟨j + 1, n' + 1, D'.put (kp (ii : Int) (q : Int)) (.lit (.int .i64 tt)), by omega, ?_, ?_, by omega, HB4', HZ4'⟩
          · have := HZE.out; congr 1; omega
          · rw [HT2.out]
            exact HX4'
        case measure => simp [intOf]; try omega
      · obtain rfl : j = row := by omega
        have hz : (j : Int) - 1 - (j : Int) = -1 := by omega
        rw [hz]
        obtain ⟨x0, x1, x2, x3, x4⟩ := HX.out.cells
        clear hz
        go_wp2
        go_ret
        have hfin : takeL rows j = takeS R0 u0 j j := by unfold takeL; rw [← HR0.out, ← HU.out]
        exact ⟨n', D', _, by rw [hfin]; rfl, by rw [hfin, ← HP.out]; exact HX.out.toO, by omega, HB.out⟩
  · rename (((last : Int) == 0) = false) => ht
    have h0 : ¬ last = 0 := by simpa using ht
    have HT0 := Lib.hid h0
    clear ht h0
    clear hrun x0 x1 x2 y0 y1 y2 y3 y4
    have e4 : rows.set row (l.take last) = R0 := by rw [HR0.out]; unfold take0; rw [← HL.out, ← HLAST.out, if_neg HT0.out]
    have e5 : rows.length = R0.length := by rw [← e4]; simp
    have hX4 := HX3.out
    rw [e4] at hX4
    rw [show (Value.slice (some ⟨go, 0, none⟩) rows.length cap) = (Value.slice (some ⟨go, 0, none⟩) R0.length cap) by rw [← e5]] at hX4
    have HX4 := Lib.hid hX4
    clear hX4 HX3 HX2 e4 e5
    have HB4 := HB3
    have HZ4 : Hid (w.heap.size < W3.heap.size) := HZ3
    go_loopw [7] (fun i wr => ∃ (j n' : Nat) (D' : DataW Unit), j ≤ row ∧ i = .int .i64 ((row : Int) - 1 - (j : Int)) ∧ Hid (StandX P wr base w.heap.size g bm n' (takeS R0 u0 row j).2 D' (.slice (some ⟨go, 0, none⟩) R0.length cap) (takeS R0 u0 row j).1) ∧ n' ≤ n + j ∧ Hid (Kpt O w wr) ∧ Hid (w.heap.size < wr.heap.size)) (fun i _ => (intOf i + 1).toNat)
    case atStart =>
      exact ⟨0, n, _, Nat.zero_le _, by simp, HX4, Nat.le_refl _, HB4, HZ4⟩
    case round =>
      obtain ⟨j, n', D', hj, rfl, HX, hn', HB, HZ⟩ := hrel
      have hlenj := takeS_len R0 u0 row j
      have hwj := takeS_ok HROK.out HUW.out HR0L.out.1 j hj
      by_cases hlt : j < row
      · obtain ⟨ii, hii⟩ : ∃ ii, ii = row - 1 - j := ⟨_, rfl⟩
        have hz : (row : Int) - 1 - (j : Int) = (ii : Int) := by omega
        rw [hz]
        have hG1 : 0 < geIdx (rd_L1 (takeS R0 u0 row j).1 (ii : Int)) (takeS R0 u0 row j).2 := by rw [hii, HR0.out, HU.out]; exact HG.out j hlt
        have hT1 : takeS R0 u0 row (j + 1) = ((takeS R0 u0 row j).1.set ii ((rd_L1 (takeS R0 u0 row j).1 (ii : Int)).set (geIdx (rd_L1 (takeS R0 u0 row j).1 (ii : Int)) (takeS R0 u0 row j).2 - 1) (takeS R0 u0 row j).2), rd (rd_L1 (takeS R0 u0 row j).1 (ii : Int)) ((geIdx (rd_L1 (takeS R0 u0 row j).1 (ii : Int)) (takeS R0 u0 row j).2 - 1 : Nat) : Int)) := by rw [hii]; rfl
        have hiiR : ii < (takeS R0 u0 row j).1.length := by rw [hlenj]; have := HR0L.out.1; omega
        have hiib : ii < R0.length := by have := HR0L.out.1; omega
        have hii100 : ii ≤ 100 := by have := HR0L.out.2; omega
        have HII := Lib.hid hii; have HZE := Lib.hid hz; have HT1 := Lib.hid hT1
        clear hii hz hT1
        obtain ⟨go2, cap2, vk2, hv2, q1, oki, hR, hoki, hH⟩ := HX.out.lend ii hiiR
        injection hv2 with hv1 hv2' hv3
        injection hv1 with hv1
        injection hv1 with hv1
        subst hv1 hv3
        clear hv2'
        obtain ⟨Ak, ck2, rfl, hck, hCk⟩ := Kd.R_reads hR
        obtain ⟨x0, x1, x2, x3, x4⟩ := HX.out.cells
        have HR := Lib.hid hR; have HH := Lib.hid hH; have HOK := Lib.hid hoki; have HC := Lib.hid hCk
        clear hR hH hoki hCk
        generalize hs : takeS R0 u0 row j = s at *
        obtain ⟨R, tt⟩ := s
        have HW := Lib.hid hwj.2; have HOR := Lib.hid hwj.1; clear hwj
        simp only at hlenj hiiR hG1 q1 hck x3
        obtain ⟨l2, hl2⟩ : ∃ l2, l2 = rd_L1 R (ii : Int) := ⟨_, rfl⟩
        have HROW := Lib.hid hl2
        simp only [← hl2] at HR HC hck q1 HH hG1 HT1
        obtain ⟨q, hq⟩ : ∃ q, geIdx l2 tt = q + 1 := ⟨geIdx l2 tt - 1, by omega⟩
        have hql : q < l2.length := by have := geIdx_le l2 tt; omega
        have hllb : l2.length ≤ 1000 := by rw [hl2]; exact (okR_at HOR.out hiiR).1
        have HS := Lib.hid hs; have HLK := Lib.hid hlenj; have HQ := Lib.hid hq
        clear hs hlenj hl2 hG1
        go_wp2_with (go_at_call 83; refine (findGe w.heap.size tt Ak ck2 l2 wr x3 HC.out).mono ?_; rintro e w1 ⟨rfl, hb1⟩; rw [HQ.out]; have HB1 := Lib.hid hb1; have y1 := pw_cell_below hb1 x1; have y0 := pw_cell_below hb1 x0; have y3 := pw_cell_below hb1 x3; clear hb1)
        have hX1 := (HX.out.below HB1.out).below (w1 := w1.drew) ((Below.refl _ _).drew)
        have hnl : n' < maxLen := by unfold maxLen; omega
        have hk1 : wfi (ii : Int) := wfi_of (by omega)
        have ha1 : wfi (q : Int) := wfi_of (by omega)
        obtain ⟨W5, hrun, hown5, hturn⟩ := hX1.own.store law90 Try.underlying69 hnl (kp_key hk1 ha1) (plainElem_int (q := .i64) (H := Unit) Try.underlying3 (show (Lit.int .i64 tt).wf = true from HW.out))
        have hX5 := hX1.turn hturn.grown hown5
        have hR5 := Kd.R_grown (Kd.R_drew (Kd.R_below HR.out HB1.out)) hturn.grown (fun q hq e => (HOK.out q hq).1.1.2 (by injection e))
        have hH5 := Kd.H_other (Kd.H_drew (Kd.H_below HH.out HB1.out)) hturn.grown (fun q hq e => hq.1.2 (by injection e))
        have hB5 := ((HB.out.below HB1.out).drew).grown hturn.grown (fun k e => by cases e; exact HPE.out _ hX1.ob)
        have hZ5 : w.heap.size < W5.heap.size := blk_lt hX5.box
        have HX5 := Lib.hid hX5; have HR5 := Lib.hid hR5; have HH5 := Lib.hid hH5; have HB5 := Lib.hid hB5; have HZ5 := Lib.hid hZ5
        clear hX1 hk1 ha1 hown5 hturn hX5 hR5 hH5 hB5 hZ5 hnl
        go_region
        clear hrun y0 y1 y3 x0 x1 x2 x3 x4 q1
        obtain ⟨x0, x1, x2, x3, x4⟩ := HX5.out.cells
        obtain ⟨gi, ci, hvi, hgi, _⟩ := Kd.R_form HR5.out (by omega)
        injection hvi with hv1 _ hv3
        subst hv1 hv3
        have hgB : gi ≠ w.heap.size ∧ gi ≠ bm := (HOK.out gi (HR5.out.1 gi (by simp [Value.ownBlock]))).1.1
        have HGP := Lib.hid (HOK.out gi (HR5.out.1 gi (by simp [Value.ownBlock]))).1.2
        obtain ⟨z1, z2⟩ := Kd.R_celln (0 : Int) HR5.out (q : Int) (by omega) (by omega)
        rw [Int.toNat_natCast] at z1 z2
        have z1' : W5.cell? ⟨gi, q, none⟩ = some (.int .i64 (rd l2 (q : Int))) := z1
        have hgB1 := hgB.1
        have hgB2 : w.heap.size ≠ gi := fun e => hgB1 e.symm
        clear z1
        have HT2 : Hid (takeS R0 u0 row (j + 1) = (R.set ii (l2.set q tt), rd l2 (q : Int))) := by
          show _ = _
          rw [HT1.out, HQ.out]; rfl
        have HX4' := Lib.hid ((HX5.out.bump (k := ii) hiiR HR5.out (fun q hq => (HOK.out q hq).1.1) HH5.out q tt (rd l2 (q : Int))).below ((Below.refl _ _).drew))
        have HB4' := Lib.hid (((HB5.out.setCell (p := ⟨gi, q, none⟩) (HPE.out _ HGP.out) (.int .i64 tt)).setCell (p := ⟨w.heap.size, 0, none⟩) (.inr (Nat.le_refl _)) (.int .i64 (rd l2 (q : Int)))).drew)
        have HZ4' : Hid (w.heap.size < ((W5.setCell ⟨gi, q, none⟩ (.int .i64 tt)).setCell ⟨w.heap.size, 0, none⟩ (.int .i64 (rd l2 (q : Int)))).drew.heap.size) := by
          show _ < _
          have := HZ5.out
          simpa [World.setCell, World.drew] using this
        clear hgi hgB
        go_wp2
        go_region
        go_wp2
        go_roundw
        case rel =>
          refine ⟨j + 1, n' + 1, D'.put (kp (ii : Int) (q : Int)) (.lit (.int .i64 tt)), by omega, ?_, ?_, by omega, HB4', HZ4'⟩
          · have := HZE.out; congr 1; omega
          · rw [HT2.out]
            exact HX4'
        case measure => simp [intOf]; try omega
      · obtain rfl : j = row := by omega
        have hz : (j : Int) - 1 - (j : Int) = -1 := by omega
        rw [hz]
        obtain ⟨x0, x1, x2, x3, x4⟩ := HX.out.cells
        clear hz
        go_wp2
        go_ret
        have hfin : takeL rows j = takeS R0 u0 j j := by unfold takeL; rw [← HR0.out, ← HU.out]
        exact ⟨n', D', _, by rw [hfin]; rfl, by rw [hfin, ← HP.out]; exact HX.out.toO, by omega, HB.out⟩
theorem take54 (base g bm n : Nat) (D : DataW Unit) (v : Value) (rows : List (List Int)) (row : Nat) (w : World) (hSt : StandAt w base g bm n D v rows) (hbw : base ≤ w.heap.size) (hrl : rows.length ≤ 100) (hn : n ≤ 100000) (hwf : okR rows)
    (hrow : row < rows.length) (hne : 0 < (rd_L1 rows (row : Int)).length) (hG : ∀ j, j < row → 0 < geIdx (rd_L1 (takeS (take0 rows row) (takeU rows row) row j).1 ((row - 1 - j : Nat) : Int)) (takeS (take0 rows row) (takeU rows row) row j).2) :
    Calls Try.prog 54 #[.pointer (some ⟨g, 0, none⟩), .int .i64 (row : Int)] w fun e w' => ∃ n' D' v', e = .returned (.int .i64 (takeL rows row).2) ∧ StandAt w' base g bm n' D' v' (takeL rows row).1 ∧ n' ≤ n + rows.length + 1 ∧ Below base w w' :=
  (take54o (fun k => base ≤ k) base g bm n D v rows row w hSt.toO hbw hrl hn hwf hrow hne hG).mono fun e w' ⟨n', D', v', h1, h2, h3, h4⟩ => ⟨n', D', v', h1, h2.toAt, h3, h4.toBelow (fun _ h => h) hbw⟩
end Go.Proofs.Ytpbemjdaanlaoaa.Pr
set_option linter.unusedVariables false
set_option linter.unusedSimpArgs false
namespace Go.Proofs.Ytpbemjdaanlaoaa.Pr
open Go.RowKit Go.Proofs.YtpbemjdaanlaoaaW.PrintWords Go.Proofs.YtpbemjdaanlaoaaW.PrintLast Go.Proofs.YtpbemjdaanlaoaaW.PrintMore
open Go.Maps
set_option maxRecDepth 100000

/-- May a taper be taken at a row? -/
def noTake (l0 : List (List Int)) (a1 : Int) : Bool := decide (a1 + 1 < (l0.length : Int)) && decide ((rd_L1 l0 a1).length = (rd_L1 l0 (a1 + 1)).length)
def takeR (l0 : List (List Int)) (a1 : Int) : (List (List Int)) × Int × Int :=
  if rkC l0 ≠ 0 then ([], 0, rkC l0) else if within_ 0 ((l0.length : Int) - 1) [a1] = false then ([], 0, 2) else if noTake l0 a1 = true then ([], 0, 22) else ((takeL l0 a1.toNat).1, (takeL l0 a1.toNat).2, 0)
def rack_Take.f (l0 : List (List Int)) (a1 : Int) : Option ((List (List Int)) × Int × Int) := if l0.length ≤ 1000 ∧ l0.flatten.length ≤ 1000 then some (takeR l0 a1) else none

theorem lit42 (lo hi a1 : Int) (W : World) : Calls Try.prog 42 #[.int .i64 lo, .int .i64 hi, .slice (some ⟨W.heap.size, 0, none⟩) 1 1] (W.alloc (.cells #[.int .i64 a1] 3)) fun e w' => e = .returned (.bool (within_ lo hi [a1])) ∧ Below W.heap.size W w' := by
  obtain ⟨A, c, e, _, hC⟩ := Kd.R_reads (R_lits W 3 [a1] (by simp))
  injection e with e1 _ e2
  subst e1
  have hb0 : Below W.heap.size W (W.alloc (.cells #[.int .i64 a1] 3)) := below_alloc (Below.refl _ _) _
  exact (within42 lo hi _ 1 [a1] _ hC).mono fun e w' ⟨h1, h2⟩ => ⟨h1, hb0.trans (h2.mono hb0.size)⟩

theorem rows_ne {rows : List (List Int)} {b : Int} (h : risesB rows b = true) {k : Nat} (hk : k < rows.length) : 0 < (rd_L1 rows (k : Int)).length := by
  unfold risesB at h
  rw [Bool.and_eq_true] at h
  have := (shB_iff rows).1 h.1 k hk
  unfold shR at this
  rw [Bool.and_eq_true] at this
  exact of_decide_eq_true this.1

set_option maxHeartbeats 4000000 in
theorem rack_Take.calls (A0 : Option Addr) (c0 : Nat) (l0 : List (List Int)) (a1 : Int) (r1 : List (List Int)) (r2 : Int) (r3 : Int) (w : World) (hr0 : Kd.C (Kd.slice 3 (Kd.int .i64)) w A0 l0.length l0) (hc0 : l0.length ≤ c0) (h : rack_Take.f l0 a1 = some (r1, r2, r3)) :
    Calls Try.prog 17 #[.slice A0 l0.length c0, .int .i64 a1] w fun e w' => ∃ v0_ : Value, e = .returned (.tuple #[v0_, .int .i64 r2, .int .i64 r3]) ∧ Kd.S (Kd.slice 3 (Kd.int .i64)) 32 w' w.heap.size (fun _ => True) v0_ r1 ∧ Below w.heap.size w w' := by
  unfold rack_Take.f at h
  have hb : l0.length ≤ 1000 ∧ l0.flatten.length ≤ 1000 := by
    by_cases hb : l0.length ≤ 1000 ∧ l0.flatten.length ≤ 1000
    · exact hb
    · rw [if_neg hb] at h; cases h
  rw [if_pos hb] at h
  injection h with h
  obtain ⟨hb1, hb2⟩ := hb
  unfold takeR at h
  by_cases hk : rkC l0 ≠ 0
  · rw [if_pos hk] at h
    have h51 := open51_no A0 c0 l0 w hr0 hc0 hb1 hb2 hk
    have H51 := Lib.hid h51
    clear h51 hr0 hb2
    injection h with e1 h
    injection h with e2 e3
    subst e1 e2 e3
    generalize rkC l0 = k at *
    have hk' : (k == 0) = false := by simpa using hk
    clear hk
    go_enter Try.func17, Try.ntmps17
    go_wp2_with (go_at_call 51; refine H51.out.mono ?_; rintro e w1 ⟨rfl, hb1⟩)
    go_ret3
    exact ⟨_, rfl, Kd.S_nil _ _ _ _ _, hb1⟩
  · rw [if_neg hk] at h
    have hk0 : rkC l0 = 0 := by
      by_cases hz : rkC l0 = 0
      · exact hz
      · exact absurd hz hk
    have h51 := open51_ok A0 c0 l0 w hr0 hc0 hb1 hk0
    obtain ⟨hok, hl12⟩ := rkC_okR hk0
    obtain ⟨_, _, hri⟩ := rkC_ok hk0
    have hL := fun W => lit42 0 ((l0.length : Int) - 1) a1 W
    have H51 := Lib.hid h51; have HL := Lib.hid hL; have HOK := Lib.hid hok; have HR0 := Lib.hid hr0; have HRI := Lib.hid hri
    clear h51 hL hok hr0 hk hk0 hb2 hri
    by_cases hw : within_ 0 ((l0.length : Int) - 1) [a1] = false
    · rw [if_pos hw] at h
      injection h with e1 h
      injection h with e2 e3
      subst e1 e2 e3
      rw [hw] at HL
      clear hw
      go_enter Try.func17, Try.ntmps17
      go_wp2_with (first
        | (go_at_call 51; refine H51.out.mono ?_; rintro e w1 ⟨g, bm, n, D, v, rfl, hS, _, hn, hb1⟩)
        | (go_at_call 42; refine (HL.out _).mono ?_; rintro e w2 ⟨rfl, hb2⟩))
      go_ret3
      exact ⟨_, rfl, Kd.S_nil _ _ _ _ _, hb1.trans (hb2.mono hb1.size)⟩
    · rw [if_neg hw] at h
      have hw1 : within_ 0 ((l0.length : Int) - 1) [a1] = true := by simpa using hw
      have hwa := within_true hw1 a1 (by simp)
      rw [hw1] at HL
      obtain ⟨row, rfl⟩ := Int.eq_ofNat_of_zero_le hwa.1
      have hrow : row < l0.length := by omega
      clear hw hw1 hwa
      have hne := rows_ne HRI.out hrow
      have hG := takeG HRI.out hrow hne
      have HG := Lib.hid hG; have HNE := Lib.hid hne; have HH := Lib.hid h
      clear hG hne h
      obtain ⟨ad, A1, c1, rfl, q1w, _, _⟩ := at_L1 HR0.out (row : Int) (by omega) (by omega)
      by_cases ht : row + 1 < l0.length
      · obtain ⟨nx, hnx⟩ : ∃ nx, nx = row + 1 := ⟨_, rfl⟩
        obtain ⟨_, A2, c2, e, q2w, _, _⟩ := at_L1 HR0.out (nx : Int) (by omega) (by omega)
        cases e
        simp only [Int.toNat_natCast] at q1w q2w
        have ht1 : nx < l0.length := by omega
        have htd : decide ((nx : Int) < (l0.length : Int)) = true := decide_eq_true (by omega)
        have hwp : wrap64 ((row : Int) + 1) = (nx : Int) := by unfold wrap64; omega
        have hwi : IntKind.i64.wrap ((row : Int) + 1) = (nx : Int) := (IntWalk.i64_left _).trans hwp
        generalize hx1 : (rd_L1 l0 (row : Int)).length = x1 at *
        generalize hx2 : (rd_L1 l0 (nx : Int)).length = x2 at *
        have HX1 := Lib.hid hx1; have HX2 := Lib.hid hx2; have HNX := Lib.hid hnx
        clear hx1 hx2 hnx ht
        have HNE : Hid (0 < (rd_L1 l0 (row : Int)).length) := Lib.hid (by rw [HX1.out]; exact HNE.out)
        have hno : noTake l0 (row : Int) = decide (x1 = x2) := by
          unfold noTake
          rw [show (row : Int) + 1 = (nx : Int) by have := HNX.out; omega, htd, HX1.out, HX2.out, Bool.true_and]
        by_cases hx : x1 = x2
        · have hnt : noTake l0 (row : Int) = true := by rw [hno, hx]; simp
          have h := HH.out
          rw [if_pos hnt] at h
          injection h with e1 h
          injection h with e2 e3
          skip
          subst e1 e2 e3
          clear hnt HH
          have hx' : ((x1 : Int) == (x2 : Int)) = true := by simp only [hx, beq_self_eq_true]
          clear hx hno
          go_enter Try.func17, Try.ntmps17
          go_wp2_with (first
            | (go_at_call 51; refine H51.out.mono ?_; rintro e w1 ⟨g, bm, n, D, v, rfl, hS, _, hn, hb1⟩; have HS1 := Lib.hid hS; clear hS)
            | (go_at_call 42; refine (HL.out _).mono ?_; rintro e w2 ⟨rfl, hb2⟩; have HS2 := Lib.hid (HS1.out.below hb2); have HB2 := Lib.hid (hb1.trans (hb2.mono hb1.size)); have y1 := pw_cell_below HB2.out q1w; have y2 := pw_cell_below HB2.out q2w))
          go_quiet (fail)
          go_wp2
          go_ret3
          exact ⟨_, rfl, Kd.S_nil _ _ _ _ _, pw_below_drewN HB2.out nq⟩
        · have hnt : ¬ noTake l0 (row : Int) = true := by rw [hno]; simpa using hx
          have h := HH.out
          rw [if_neg hnt] at h
          injection h with e1 h
          injection h with e2 e3
          rw [Int.toNat_natCast] at e1 e2
          subst e1 e2 e3
          clear hnt HH
          have hx' : ((x1 : Int) == (x2 : Int)) = false := beq_eq_false_iff_ne.2 (by omega)
          clear hx hno
          go_enter Try.func17, Try.ntmps17
          go_wp2_with (first
            | (go_at_call 51; refine H51.out.mono ?_; rintro e w1 ⟨g, bm, n, D, v, rfl, hS, _, hn, hb1⟩; have HS1 := Lib.hid hS; clear hS)
            | (go_at_call 42; refine (HL.out _).mono ?_; rintro e w2 ⟨rfl, hb2⟩; have HS2 := Lib.hid (HS1.out.below hb2); have HB2 := Lib.hid (hb1.trans (hb2.mono hb1.size)); have y1 := pw_cell_below HB2.out q1w; have y2 := pw_cell_below HB2.out q2w))
          go_quiet (fail)
          go_wp2_with (go_at_call 54; refine (take54 w.heap.size g bm n D v l0 row _ (HS2.out.below (pw_below_drewN (Below.refl _ _) nq)) HB2.out.size (by omega) (by omega) HOK.out hrow HNE.out HG.out).mono ?_; rintro e w4 ⟨n', D', v', rfl, hS4, _, hb4⟩; have x4 := hS4.hv.1; have HS4 := Lib.hid hS4; clear hS4)
          go_ret3
          exact ⟨_, rfl, HS4.out.row, (pw_below_drewN HB2.out nq).trans hb4⟩
      · obtain ⟨nx, hnx⟩ : ∃ nx, nx = row + 1 := ⟨_, rfl⟩
        have htd : decide ((nx : Int) < (l0.length : Int)) = false := decide_eq_false (by omega)
        have hwp : wrap64 ((row : Int) + 1) = (nx : Int) := by unfold wrap64; omega
        have hwi : IntKind.i64.wrap ((row : Int) + 1) = (nx : Int) := (IntWalk.i64_left _).trans hwp
        have hnt : ¬ noTake l0 (row : Int) = true := by
          unfold noTake
          rw [show (row : Int) + 1 = (nx : Int) by omega, htd]; simp
        have h := HH.out
        rw [if_neg hnt] at h
        injection h with e1 h
        injection h with e2 e3
        rw [Int.toNat_natCast] at e1 e2
        subst e1 e2 e3
        clear hnt HH
        have ht3 : ¬ nx < l0.length := by omega
        clear hnx ht q1w htd
        go_enter Try.func17, Try.ntmps17
        go_wp2_with (first
          | (go_at_call 51; refine H51.out.mono ?_; rintro e w1 ⟨g, bm, n, D, v, rfl, hS, _, hn, hb1⟩; have HS1 := Lib.hid hS; clear hS)
          | (go_at_call 42; refine (HL.out _).mono ?_; rintro e w2 ⟨rfl, hb2⟩; have HS2 := Lib.hid (HS1.out.below hb2); have HB2 := Lib.hid (hb1.trans (hb2.mono hb1.size)); skip))
        go_quiet (fail)
        go_wp2_with (go_at_call 54; refine (take54 w.heap.size g bm n D v l0 row _ (HS2.out.below (pw_below_drewN (Below.refl _ _) nq)) HB2.out.size (by omega) (by omega) HOK.out hrow HNE.out HG.out).mono ?_; rintro e w4 ⟨n', D', v', rfl, hS4, _, hb4⟩; have x4 := hS4.hv.1; have HS4 := Lib.hid hS4; clear hS4)
        go_ret3
        exact ⟨_, rfl, HS4.out.row, (pw_below_drewN HB2.out nq).trans hb4⟩
end Go.Proofs.Ytpbemjdaanlaoaa.Pr
set_option linter.unusedVariables false
set_option linter.unusedSimpArgs false
namespace Go.Proofs.Ytpbemjdaanlaoaa.Pr
open Go.RowKit Go.Proofs.YtpbemjdaanlaoaaW.PrintWords Go.Proofs.YtpbemjdaanlaoaaW.PrintLast Go.Proofs.YtpbemjdaanlaoaaW.PrintMore
open Go.Maps
set_option maxRecDepth 100000
def lenAt (rows : List (List Int)) (k : Nat) (j : Nat) : Int := if j < k then ((rd_L1 rows (j : Int)).length : Int) else 0
def shK (rows : List (List Int)) (k : Nat) : Array Value := #[.int .i64 (lenAt rows k 0), .int .i64 (lenAt rows k 1), .int .i64 (lenAt rows k 2), .int .i64 (lenAt rows k 3), .int .i64 (lenAt rows k 4), .int .i64 (lenAt rows k 5), .int .i64 (lenAt rows k 6), .int .i64 (lenAt rows k 7), .int .i64 (lenAt rows k 8), .int .i64 (lenAt rows k 9), .int .i64 (lenAt rows k 10), .int .i64 (lenAt rows k 11), .int .i64 (lenAt rows k 12)]
def z13 : Array Value := #[.int .i64 0, .int .i64 0, .int .i64 0, .int .i64 0, .int .i64 0, .int .i64 0, .int .i64 0, .int .i64 0, .int .i64 0, .int .i64 0, .int .i64 0, .int .i64 0, .int .i64 0]
theorem shK_zero (rows : List (List Int)) : shK rows 0 = z13 := by simp [shK, z13, lenAt]
theorem shK_size (rows : List (List Int)) (k : Nat) : (shK rows k).size = 13 := rfl
theorem shK_at (rows : List (List Int)) (k j : Nat) (hj : j < 13) : (shK rows k)[j]? = some (.int .i64 (lenAt rows k j)) := by
  have : j = 0 ∨ j = 1 ∨ j = 2 ∨ j = 3 ∨ j = 4 ∨ j = 5 ∨ j = 6 ∨ j = 7 ∨ j = 8 ∨ j = 9 ∨ j = 10 ∨ j = 11 ∨ j = 12 := by omega
  rcases this with rfl | rfl | rfl | rfl | rfl | rfl | rfl | rfl | rfl | rfl | rfl | rfl | rfl <;> rfl
theorem shK_next (rows : List (List Int)) (k : Nat) (hk : k < 13) : (shK rows k).setIfInBounds k (.int .i64 ((rd_L1 rows (k : Int)).length : Int)) = shK rows (k + 1) := by
  apply Array.ext_getElem?
  intro j
  rw [Array.getElem?_setIfInBounds]
  by_cases hj : j < 13
  · rw [shK_at rows (k + 1) j hj]
    by_cases e : k = j
    · subst e
      rw [if_pos rfl, if_pos (by rw [shK_size]; omega)]
      simp [lenAt]
    · rw [if_neg e, shK_at rows k j hj]
      have : lenAt rows (k + 1) j = lenAt rows k j := by
        unfold lenAt
        by_cases h : j < k
        · rw [if_pos h, if_pos (by omega)]
        · rw [if_neg h, if_neg (by omega)]
      rw [this]
  · rw [Array.getElem?_eq_none (by rw [shK_size]; omega), Array.getElem?_eq_none (by rw [shK_size]; omega)]
    split
    · rename_i e; subst e; rw [if_neg (by rw [shK_size]; omega)]
    · rfl
theorem clear13 (W : World) (B : Nat) (hb : W.heap[B]? = some (.cells z13 78 (0, 0))) : ∃ W1, (Builtin.clear_ #[32] 0 #[.slice (some ⟨B, 0, none⟩) 13 13]).run Try.prog W = .ok (.tuple #[]) W1 ∧ W.grownBy W1 (some B) ∧ W1.heap[B]? = some (.cells z13 78 (0, 0)) := by
  have hr := Lib.run_clear_slice (P := Try.prog) W 32 3 0 (.int .i64 0) Try.underlying32 zero3 rfl rfl B 0 13 13 (by omega) (fun j hj => by rw [cell_of_row W B _ z13 78 (0, 0) hb]; simp [z13]; omega) (fun j _ => blk_frozen hb _)
  obtain ⟨cur', h3, h4, h5⟩ := setCells_row (List.replicate 13 (Value.int .i64 0)) 0 W z13 hb (by simp [z13])
  obtain ⟨s1, s2, s3, s4⟩ := setCells_same B (List.replicate 13 (Value.int .i64 0)) 0 W
  refine ⟨_, hr, ⟨s1, s2, s3, by rw [s4]; exact Nat.le_refl _, fun k _ hk => setCells_far _ _ k (fun he => hk (by rw [he]))⟩, ?_⟩
  rw [h3]
  have : cur' = z13 := by
    apply Array.toList_inj.1
    rw [h5]; rfl
  rw [this]
theorem blk_cellA {w : World} {B : Nat} {cs : Array Value} {t : Nat} (h : w.heap[B]? = some (.cells cs t (0, 0))) (j : Nat) : w.cell? ⟨B, j, none⟩ = cs[j]? := by simp [World.cell?, h]
theorem blk_frozenA {w : World} {B : Nat} {cs : Array Value} {t : Nat} (h : w.heap[B]? = some (.cells cs t (0, 0))) (j : Nat) : w.frozen? ⟨B, j, none⟩ = false := by simp [World.frozen?, h]
theorem blk_store {w : World} {B : Nat} {cs : Array Value} {t : Nat} (h : w.heap[B]? = some (.cells cs t (0, 0))) (j : Nat) (v : Value) : (w.setCell ⟨B, j, none⟩ v).heap[B]? = some (.cells (cs.setIfInBounds j v) t (0, 0)) := blk_put h j v rfl
theorem blk_otherA {w : World} {B : Nat} {o : Obj} (h : w.heap[B]? = some o) {g : Nat} (hne : B ≠ g) (j : Nat) (v : Value) : (w.setCell ⟨g, j, none⟩ v).heap[B]? = some o := (Below.heap_setCell w ⟨g, j, none⟩ v B hne).trans h
set_option maxHeartbeats 1000000 in
theorem shape58 (A : Option Addr) (c : Nat) (rows : List (List Int)) (w : World) (hl : rows.length ≤ 12) (hr : Kd.C (Kd.slice 3 (Kd.int .i64)) w A rows.length rows) :
    Calls Try.prog 58 #[.agg #[.slice A rows.length c]] w fun e w' => e = .returned (.agg (shK rows rows.length)) ∧ Below w.heap.size w w' := by
  obtain ⟨W1, hrun, hg1, hb1⟩ := clear13 (((w.alloc (.cells #[.slice A rows.length c] 68)).alloc (.cells z13 78)).alloc (.cells z13 78)) (w.heap.size + 1 + 1) (heap_alloc_at (by simp))
  have hb0 : W1.heap[w.heap.size + 1]? = some (.cells z13 78 (0, 0)) := (hg1.block _ (by simp) (by simp)).trans (blk_alloc (heap_alloc_at (by simp)) _)
  have hbb : W1.heap[w.heap.size]? = some (.cells #[.slice A rows.length c] 68 (0, 0)) := (hg1.block _ (by simp; omega) (by simp; omega)).trans (blk_alloc (blk_alloc (heap_alloc_at rfl) _) _)
  have hB1 : Below w.heap.size w W1 := ((((Below.refl _ w).alloc (Nat.le_refl _) _).alloc (by simp) _).alloc (by simp; omega) _).grown hg1 (by simp; omega) (fun k e => by cases e; omega)
  have hc := blk_cellA hbb 0
  simp only [z13] at hrun
  have HR := Lib.hid hr; have HB1 := Lib.hid hB1; have HBL1 := Lib.hid hb1; have HBL0 := Lib.hid hb0
  have hc : W1.cell? ⟨w.heap.size, 0, none⟩ = some (.slice A rows.length c) := hc
  clear hr hB1 hb1 hb0 hbb hg1
  go_enter Try.func58, Try.ntmps58
  go_wp2
  clear hrun hc
  go_loopw [10] (fun i wr => ∃ k : Nat, k ≤ rows.length ∧ i = .int .i64 k ∧ Hid (wr.heap[w.heap.size + 1 + 1]? = some (.cells (shK rows k) 78 (0, 0))) ∧ Hid (wr.heap[w.heap.size + 1]? = some (.cells z13 78 (0, 0))) ∧ Hid (Below w.heap.size w wr)) (fun i _ => rows.length - (intOf i).toNat)
  case atStart => exact ⟨0, Nat.zero_le _, rfl, by rw [shK_zero]; exact HBL1, HBL0, HB1⟩
  case round =>
    obtain ⟨k, hk, rfl, HBL, HBX, HB⟩ := hrel
    by_cases hlt : k < rows.length
    · obtain ⟨ad, A1, c1, rfl, q1w, q2, q3⟩ := at_L1 HR.out (k : Int) (by omega) (by omega)
      simp only [Int.toNat_natCast] at q1w
      have q1 := pw_cell_below HB.out q1w
      have z1 := (blk_cellA HBL.out k).trans (shK_at rows k k (by omega))
      have z2 := blk_frozenA HBL.out k
      have hk13 : k < 13 := by omega
      clear q1w q2 q3
      go_wp2
      refine ⟨⟨k + 1, by omega, by go_num, ?_, blk_otherA HBX.out (by omega) _ _, HB.out.setCell (p := ⟨w.heap.size + 1 + 1, k, none⟩) (by simp; omega) _⟩, by simp [intOf]; omega⟩
      rw [← shK_next rows k (by omega)]
      exact blk_store HBL.out k _
    · obtain rfl : k = rows.length := by omega
      have hc13 := fun j (hj : j < 13) => (blk_cellA HBL.out j).trans (shK_at rows rows.length j hj)
      have i0 := hc13 0 (by omega); have i1 := hc13 1 (by omega); have i2 := hc13 2 (by omega); have i3 := hc13 3 (by omega); have i4 := hc13 4 (by omega); have i5 := hc13 5 (by omega); have i6 := hc13 6 (by omega)
      have i7 := hc13 7 (by omega); have i8 := hc13 8 (by omega); have i9 := hc13 9 (by omega); have i10 := hc13 10 (by omega); have i11 := hc13 11 (by omega); have i12 := hc13 12 (by omega)
      have hb2 := HBX.out
      have hj := fun j => blk_cellA hb2 j
      have hf := fun j => blk_frozenA hb2 j
      simp only [z13] at hj
      clear hc13 hb2
      go_wp2
      refine bodyPost_ret (v := .agg (shK rows rows.length)) (by simp [results, Try.f58, go_sem, hj, hf, shK]) rfl ?_
      have hs1 : w.heap.size ≤ w.heap.size + 1 := Nat.le_succ _
      exact ⟨rfl, (((((((((((((HB.out.setCell (p := ⟨w.heap.size + 1, 0, none⟩) hs1 _).setCell (p := ⟨w.heap.size + 1, 1, none⟩) hs1 _).setCell (p := ⟨w.heap.size + 1, 2, none⟩) hs1 _).setCell (p := ⟨w.heap.size + 1, 3, none⟩) hs1 _).setCell (p := ⟨w.heap.size + 1, 4, none⟩) hs1 _).setCell (p := ⟨w.heap.size + 1, 5, none⟩) hs1 _).setCell (p := ⟨w.heap.size + 1, 6, none⟩) hs1 _).setCell (p := ⟨w.heap.size + 1, 7, none⟩) hs1 _).setCell (p := ⟨w.heap.size + 1, 8, none⟩) hs1 _).setCell (p := ⟨w.heap.size + 1, 9, none⟩) hs1 _).setCell (p := ⟨w.heap.size + 1, 10, none⟩) hs1 _).setCell (p := ⟨w.heap.size + 1, 11, none⟩) hs1 _).setCell (p := ⟨w.heap.size + 1, 12, none⟩) hs1 _)⟩

theorem info3e : ∃ i, Try.prog.info? 3 = some i := Option.isSome_iff_exists.1 (by kernel_rfl)
theorem plain3 : Try.prog.plainKey 3 = true := by kernel_rfl
theorem part3 (xs : Array Value) (j : Nat) (v : Value) (h : xs[j]? = some v) (w : World) : (part 3 xs j).run Try.prog w = .ok v w := run_part_plain w plain3 h
theorem eqItems_iff (d : Nat) (xs ys : Array Value) (w : World) : ∀ (is : List Nat), (∀ j ∈ is, ∃ a b : Int, xs[j]? = some (.int .i64 a) ∧ ys[j]? = some (.int .i64 b)) →
    ∃ r, (Op.eqItems (d + 1) 3 1 xs ys is).run Try.prog w = .ok r w ∧ (r = true ↔ ∀ j ∈ is, xs[j]? = ys[j]?)
  | [], _ => ⟨true, by simp [Op.eqItems], by simp⟩
  | j :: is, h => by
    obtain ⟨a, b, ha, hb⟩ := h j (by simp)
    obtain ⟨r, hr, hrr⟩ := eqItems_iff d xs ys w is (fun i hi => h i (by simp [hi]))
    have e1 := part3 xs j _ ha w
    have e2 := part3 ys j _ hb w
    have e3 := run_equalIn_int (P := Try.prog) w d 3 .i64 .i64 a b Try.underlying3
    by_cases hab : a = b
    · subst hab
      refine ⟨r, ?_, ?_⟩
      · simp [Op.eqItems, e1, e2, e3, hr]
      · rw [hrr]
        constructor
        · intro hr1 i hi
          rcases List.mem_cons.1 hi with rfl | hi
          · rw [ha, hb]
          · exact hr1 i hi
        · exact fun hr1 i hi => hr1 i (List.mem_cons_of_mem _ hi)
    · have hne : (a == b) = false := by simp [hab]
      refine ⟨false, ?_, ?_⟩
      · simp [Op.eqItems, e1, e2, e3, hne]
      · constructor
        · intro h; cases h
        · intro h
          have := h j (by simp)
          rw [ha, hb] at this
          injection this with this
          injection this with _ this
          exact absurd this hab
/-- Have two racks one shape? -/
def sameSh (a b : List (List Int)) : Bool := (List.range 13).all fun j => decide (lenAt a a.length j = lenAt b b.length j)
theorem eqShape (a b : List (List Int)) (w : World) : (Op.equalIn 10000 78 (.agg (shK a a.length)) (.agg (shK b b.length))).run Try.prog w = .ok (sameSh a b) w := by
  obtain ⟨i, hi⟩ := info3e
  obtain ⟨r, hr, hrr⟩ := eqItems_iff 9998 (shK a a.length) (shK b b.length) w (List.range 13) (by
    intro j hj
    have hj := List.mem_range.1 hj
    exact ⟨_, _, shK_at a a.length j hj, shK_at b b.length j hj⟩)
  have e : r = sameSh a b := by
    rw [Bool.eq_iff_iff, hrr]
    unfold sameSh
    rw [List.all_eq_true]
    refine ⟨fun h j hj => ?_, fun h j hj => ?_⟩
    · have := h j hj
      rw [shK_at a a.length j (List.mem_range.1 hj), shK_at b b.length j (List.mem_range.1 hj)] at this
      injection this with this
      injection this with _ this
      simpa using this
    · rw [shK_at a a.length j (List.mem_range.1 hj), shK_at b b.length j (List.mem_range.1 hj), of_decide_eq_true (h j hj)]
  rw [← e]
  have := run_equalIn_array (P := Try.prog) w 9999 (shK a a.length) (shK b b.length) Try.underlying78 hi
  rw [cells3] at this
  exact this.trans hr
end Go.Proofs.Ytpbemjdaanlaoaa.Pr
set_option linter.unusedVariables false
set_option linter.unusedSimpArgs false
namespace Go.Proofs.Ytpbemjdaanlaoaa.Pr
open Go.RowKit Go.Proofs.YtpbemjdaanlaoaaW.PrintWords Go.Proofs.YtpbemjdaanlaoaaW.PrintLast Go.Proofs.YtpbemjdaanlaoaaW.PrintMore
set_option maxRecDepth 100000

set_option maxHeartbeats 400000 in
theorem index87 (A : Option Addr) (c : Nat) (l : List Int) (x : Int) (w : World) (hr : Kd.C (Kd.int .i64) w A l.length l) :
    Calls Try.prog 87 #[.slice A l.length c, .int .i64 x] w fun e w' => e = .returned (.int .i64 (idxI (fun n => n == x) l)) ∧ Below w.heap.size w w' := by
  go_enter Try.func87, Try.ntmps87
  go_wp2
  have hlen : l.length ≤ 9223372036854775807 := hr.2.1
  go_loopw [8] (fun i wr => ∃ k : Nat, k ≤ l.length ∧ i = .int .i64 k ∧ Below w.heap.size w wr ∧ Hid (∀ j, j < k → (rd l j == x) = false)) (fun i _ => l.length - (intOf i).toNat)
  case atStart => exact ⟨0, Nat.zero_le _, rfl, Below.refl _ _, fun j hj => absurd hj (Nat.not_lt_zero j)⟩
  case round =>
    obtain ⟨k, hk, rfl, hb, Hno⟩ := hrel
    by_cases hlt : k < l.length
    · obtain ⟨ad, rfl, hcell⟩ := Kd.at_int hr k (by omega) (by omega)
      have hcell2 : wr.cell? (ad.add k) = some (.int .i64 (rd l k)) := by simpa using pw_cell_below hb hcell
      clear hcell
      obtain ⟨y, hy⟩ : ∃ y, y = rd l k := ⟨_, rfl⟩
      rw [← hy] at hcell2
      have HY := Lib.hid hy; clear hy
      by_cases hxy : y = x
      · have e1 : (x == y) = true := by simp [hxy]
        have e2 : (y == x) = true := by simp [hxy]
        have HXY := Lib.hid hxy; clear hxy
        go_wp2
        go_ret
        exact ⟨ret_int (idxI_at _ l k hlt (by rw [← rd_get l k hlt, ← HY.out]; exact e2) (fun j hj => by rw [← rd_get l j (by omega)]; exact Hno.out j hj)).symm, hb⟩
      · have e1 : (x == y) = false := by simp [Ne.symm hxy]
        have e2 : (y == x) = false := by simp [hxy]
        clear hxy
        go_wp2
        refine ⟨⟨k + 1, by omega, by go_num, hb, fun j hj => ?_⟩, by simp [intOf]; omega⟩
        rcases Nat.lt_or_ge j k with h | h
        · exact Hno.out j h
        · obtain rfl : j = k := by omega
          rw [← HY.out]; exact e2
    · go_wp2
      go_ret
      exact ⟨ret_int (idxI_neg _ l (fun z hz => by obtain ⟨j, hj, rfl⟩ := List.mem_iff_getElem.1 hz; rw [← rd_get l j hj]; exact Hno.out j (by omega))).symm, hb⟩
theorem contains61 (A : Option Addr) (c : Nat) (l : List Int) (x : Int) (w : World) (hr : Kd.C (Kd.int .i64) w A l.length l) :
    Calls Try.prog 61 #[.slice A l.length c, .int .i64 x] w fun e w' => e = .returned (.bool (l.any (fun n => n == x))) ∧ Below w.heap.size w w' := by
  have h87 := index87 A c l x w hr
  clear hr
  go_enter Try.func61, Try.ntmps61
  go_wp2_with (go_at_call 87; refine h87.mono ?_; rintro e w' ⟨rfl, hb⟩)
  go_ret
  exact ⟨ret_bool (idxI_any _ l), hb⟩
theorem read60 (A : Option Addr) (c : Nat) (l : List Int) (p1 : Addr) (x : Int) (w : World) (hr : Kd.C (Kd.int .i64) w A l.length l) (h1 : w.cell? p1 = some (.int .i64 x)) :
    Calls Try.prog 60 #[.slice A l.length c, .pointer (some p1)] w fun e w' => e = .returned (.bool (l.any (fun n => n == x))) ∧ Below w.heap.size w w' := by
  have h61 := contains61 A c l x w hr
  clear hr
  go_enter Try.func60, Try.ntmps60
  go_wp2_with (go_at_call 61; refine h61.mono ?_; rintro e w' ⟨rfl, hb⟩)
  go_ret
  exact ⟨rfl, hb⟩
theorem enters60 : EntersF 60 := fun _ _ => by kernel_rfl

set_option maxHeartbeats 400000 in
theorem indexFunc59 (g : Nat) (caps : Array Value) (A : Option Addr) (c : Nat) (rows : List (List Int)) (w : World) (p : List Int → Bool)
    (hg0 : EntersF g)
    (hp : ∀ (A1 : Option Addr) (c1 : Nat) (l : List Int) W, l ∈ rows → l.length ≤ c1 → Below w.heap.size w W → Kd.C (Kd.int .i64) W A1 l.length l → Calls Try.prog g (#[.slice A1 l.length c1] ++ caps) W fun e W' => e = .returned (.bool (p l)) ∧ Below w.heap.size w W')
    (hr : Kd.C (Kd.slice 3 (Kd.int .i64)) w A rows.length rows) :
    Calls Try.prog 59 #[.slice A rows.length c, .func (.func g) #[] caps] w fun e w' => e = .returned (.int .i64 (idxI p rows)) ∧ Below w.heap.size w w' := by
  have hg : ∀ (xs : Array Value) (W : World), (callFunc g xs).run Try.prog W = .ok (.enter g xs) W := hg0
  go_enter Try.func59, Try.ntmps59
  go_wp2
  have hlen : rows.length ≤ 9223372036854775807 := hr.2.1
  go_loopw [8] (fun i wr => ∃ k : Nat, k ≤ rows.length ∧ i = .int .i64 k ∧ Below w.heap.size w wr ∧ Hid (∀ j : Nat, j < k → p (rd_L1 rows j) = false)) (fun i _ => rows.length - (intOf i).toNat)
  case atStart => exact ⟨0, Nat.zero_le _, rfl, Below.refl _ _, fun j hj => absurd hj (Nat.not_lt_zero j)⟩
  case round =>
    obtain ⟨k, hk, rfl, hb, Hno⟩ := hrel
    by_cases hlt : k < rows.length
    · obtain ⟨ad, A1, c1, rfl, q1w, q2, q3⟩ := at_L1 hr (k : Int) (by omega) (by omega)
      simp only [Int.toNat_natCast] at q1w
      have q1 := pw_cell_below hb q1w
      have hpk := hp A1 c1 (rd_L1 rows k) wr (by rw [rdL_get rows k hlt]; exact List.getElem_mem hlt) q2 hb (Kd.C_below q3 hb)
      clear hp q1w q2 q3
      generalize hpp : p (rd_L1 rows k) = q at hpk
      have Hpp := Lib.hid hpp; clear hpp
      cases q
      all_goals go_wp2_with ((with_reducible refine hpk.mono ?_); rintro e W' ⟨rfl, hb2⟩)
      · go_roundw
        case rel =>
          refine ⟨k + 1, by omega, by go_num, hb2, fun j hj => ?_⟩
          rcases Nat.lt_or_ge j k with h | h
          · exact Hno.out j h
          · obtain rfl : j = k := by omega
            exact Hpp.out
        case measure => simp [intOf]; omega
      · go_ret
        exact ⟨ret_int (idxI_at p rows k hlt (by rw [← rdL_get rows k hlt]; exact Hpp.out) (fun j hj => by rw [← rdL_get rows j (by omega)]; exact Hno.out j hj)).symm, hb2⟩
    · go_wp2
      go_ret
      exact ⟨ret_int (idxI_neg p rows (fun x hx => by obtain ⟨j, hj, rfl⟩ := List.mem_iff_getElem.1 hx; rw [← rdL_get rows j hj]; exact Hno.out j (by omega))).symm, hb⟩
/-- The row that has a number. -/
theorem rowOf59 (A : Option Addr) (c : Nat) (rows : List (List Int)) (w : World) (p1 : Addr) (x : Int) (h1 : w.cell? p1 = some (.int .i64 x)) (hr : Kd.C (Kd.slice 3 (Kd.int .i64)) w A rows.length rows) :
    Calls Try.prog 59 #[.slice A rows.length c, .func (.func 60) #[] #[.pointer (some p1)]] w fun e w' => e = .returned (.int .i64 (idxI (fun l => l.any (fun n => n == x)) rows)) ∧ Below w.heap.size w w' :=
  indexFunc59 60 #[.pointer (some p1)] A c rows w _ enters60 (fun A1 c1 l W _ _ hb hC => (read60 A1 c1 l p1 x W hC (pw_cell_below hb h1)).mono fun e W' ⟨he, hw⟩ => ⟨he, hb.trans (hw.mono hb.size)⟩) hr
theorem containsFunc71 (g : Nat) (caps : Array Value) (A : Option Addr) (c : Nat) (rows : List (List Int)) (w : World) (p : List Int → Bool)
    (hg0 : EntersF g)
    (hp : ∀ (A1 : Option Addr) (c1 : Nat) (l : List Int) W, l ∈ rows → l.length ≤ c1 → Below w.heap.size w W → Kd.C (Kd.int .i64) W A1 l.length l → Calls Try.prog g (#[.slice A1 l.length c1] ++ caps) W fun e W' => e = .returned (.bool (p l)) ∧ Below w.heap.size w W')
    (hr : Kd.C (Kd.slice 3 (Kd.int .i64)) w A rows.length rows) :
    Calls Try.prog 71 #[.slice A rows.length c, .func (.func g) #[] caps] w fun e w' => e = .returned (.bool (rows.any p)) ∧ Below w.heap.size w w' := by
  have hc := indexFunc59 g caps A c rows w p hg0 hp hr
  clear hp
  go_enter Try.func71, Try.ntmps71
  go_wp2_with (go_at_call 59; refine hc.mono ?_; rintro e w' ⟨rfl, hb⟩)
  go_ret
  exact ⟨ret_bool (idxI_any p rows), hb⟩
theorem none70 (A : Option Addr) (c : Nat) (l : List Int) (w : World) (hl : l.length ≤ 1000) :
    Calls Try.prog 70 #[.slice A l.length c] w fun e w' => e = .returned (.bool ((l.length : Int) == 0)) ∧ w = w' := by
  go_enter Try.func70, Try.ntmps70
  go_wp2
  go_ret
  exact ⟨rfl, rfl⟩
theorem enters70 : EntersF 70 := fun _ _ => by kernel_rfl
theorem enters72 : EntersF 72 := fun _ _ => by kernel_rfl
end Go.Proofs.Ytpbemjdaanlaoaa.Pr
