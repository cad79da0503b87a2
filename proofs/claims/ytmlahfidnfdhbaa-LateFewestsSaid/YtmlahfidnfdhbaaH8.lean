import Derived.Test.YtmlahfidnfdhbaaH7
import Derived.Test.YtmlahfidnfdhbaaRJ
set_option linter.unusedSimpArgs false
set_option linter.unusedVariables false
namespace Go.Proofs.Ytmlahfidnfdhbaa.Pr
open Go.RowKit Go.Proofs.YtmlahfidnfdhbaaW.PrintWords Go.Proofs.YtmlahfidnfdhbaaW.PrintLast Go.Proofs.YtmlahfidnfdhbaaW.PrintMore
set_option maxRecDepth 100000

theorem bit_all : ∀ b : Fin 256, ∀ i : Fin 8, Go.bits .and .i64 (shr .i64 ((b.1 : Nat) : Int) ((i.1 : Nat) : Int)) 1 = if b.1.testBit i.1 = true then 1 else 0 := by decide +kernel
theorem bit_at (b i : Nat) (hb : b < 256) (hi : i < 8) : Go.bits .and .i64 (shr .i64 (b : Int) (i : Int)) 1 = if b.testBit i = true then 1 else 0 := bit_all ⟨b, hb⟩ ⟨i, hi⟩
theorem shl_all : ∀ n : Fin 9, shl .i64 1 ((n.1 : Nat) : Int) = ((2 ^ n.1 : Nat) : Int) := by decide +kernel
theorem shl_at (n : Nat) (h : n < 9) : shl .i64 1 (n : Int) = ((2 ^ n : Nat) : Int) := shl_all ⟨n, h⟩

/-- The indexes that bits say. -/
def listed (b : Nat) : Nat → List Int
  | 0 => []
  | j + 1 => if b.testBit j = true then listed b j ++ [(j : Int)] else listed b j
theorem listed_mem (b : Nat) : ∀ n x, x ∈ listed b n ↔ ∃ j : Nat, j < n ∧ x = (j : Int) ∧ b.testBit j = true
  | 0, x => by simp [listed]
  | n + 1, x => by
    unfold listed
    have ih := listed_mem b n x
    by_cases h : b.testBit n = true
    · rw [if_pos h, List.mem_append, ih, List.mem_singleton]
      constructor
      · rintro (⟨j, h1, h2, h3⟩ | rfl)
        · exact ⟨j, by omega, h2, h3⟩
        · exact ⟨n, by omega, rfl, h⟩
      · rintro ⟨j, h1, h2, h3⟩
        by_cases hj : j = n
        · exact .inr (by rw [h2, hj])
        · exact .inl ⟨j, by omega, h2, h3⟩
    · rw [if_neg h, ih]
      constructor
      · rintro ⟨j, h1, h2, h3⟩; exact ⟨j, by omega, h2, h3⟩
      · rintro ⟨j, h1, h2, h3⟩
        by_cases hj : j = n
        · rw [hj] at h3; exact absurd h3 h
        · exact ⟨j, by omega, h2, h3⟩
theorem listed_nodup (b : Nat) : ∀ n, (listed b n).Nodup
  | 0 => by simp [listed]
  | n + 1 => by
    unfold listed
    split
    · refine List.nodup_append.2 ⟨listed_nodup b n, by simp, ?_⟩
      intro x hx y hy e
      obtain ⟨j, h1, h2, _⟩ := (listed_mem b n x).1 hx
      rw [List.mem_singleton.1 hy] at e
      omega
    · exact listed_nodup b n
theorem listed_len (b : Nat) : ∀ n, (listed b n).length ≤ n
  | 0 => by simp [listed]
  | n + 1 => by
    have := listed_len b n
    unfold listed
    split
    · simp; omega
    · omega
theorem listed_loop (b n : Nat) (hb : b < 256) (hn : n ≤ 8) : ∀ d j, n - j = d → j ≤ n → Ev (fun k => fippleref05_Listed.l0 k (b : Int) (n : Int) (listed b j) (j : Int)) (listed b n) := by
  intro d
  induction d with
  | zero =>
    intro j h1 h2
    obtain rfl : j = n := by omega
    refine Ev.step (f := fun _ => some (listed b j)) (fun k => ?_) (Ev.now _)
    simp only [fippleref05_Listed.l0]
    rw [if_neg (by omega)]
  | succ d ih =>
    intro j h1 h2
    have hl := listed_len b j
    refine Ev.step (f := fun k => fippleref05_Listed.l0 k (b : Int) (n : Int) (listed b (j + 1)) ((j + 1 : Nat) : Int)) (fun k => ?_) (ih (j + 1) (by omega) (by omega))
    simp only [fippleref05_Listed.l0]
    rw [if_pos (by omega), if_pos (by omega), bit_at b j hb (by omega), w1 j (by omega)]
    by_cases h : b.testBit j = true
    · have e : listed b (j + 1) = listed b j ++ [(j : Int)] := if_pos h
      rw [e, if_pos (by rw [if_pos h]), if_pos (by omega)]
    · have e : listed b (j + 1) = listed b j := if_neg h
      rw [e, if_neg (by rw [if_neg h]; decide)]
theorem listed_ev (b n : Nat) (hb : b < 256) (hn : n ≤ 8) : Ev (fun k => fippleref05_Listed.f k (b : Int) (n : Int)) (listed b n) := by
  unfold fippleref05_Listed.f
  exact listed_loop b n hb hn n 0 rfl (by omega)

/-- The bits that say a list. -/
def bitsOf (f : Nat → Bool) : Nat → Nat
  | 0 => 0
  | n + 1 => if f n = true then 2 ^ n + bitsOf f n else bitsOf f n
theorem bitsOf_lt (f : Nat → Bool) : ∀ n, bitsOf f n < 2 ^ n
  | 0 => by simp [bitsOf]
  | n + 1 => by
    have := bitsOf_lt f n
    have e : 2 ^ (n + 1) = 2 ^ n + 2 ^ n := by rw [Nat.pow_succ]; omega
    unfold bitsOf
    split <;> omega
theorem bitsOf_bit (f : Nat → Bool) : ∀ n j, j < n → (bitsOf f n).testBit j = f j
  | 0, j, h => by omega
  | n + 1, j, h => by
    have hlt := bitsOf_lt f n
    unfold bitsOf
    by_cases hj : j = n
    · subst hj
      by_cases hf : f j = true
      · rw [if_pos hf, Nat.testBit_two_pow_add_eq, Nat.testBit_lt_two_pow hlt, hf]; rfl
      · rw [if_neg hf, Nat.testBit_lt_two_pow hlt]
        exact (Bool.eq_false_iff.2 hf).symm
    · have ih := bitsOf_bit f n j (by omega)
      by_cases hf : f n = true
      · rw [if_pos hf, Nat.testBit_two_pow_add_gt (by omega), ih]
      · rw [if_neg hf, ih]

/-- What the bits say, by the orders' Due. -/
def toK (l : List S58) (b : Nat) : List Int := (byDueL l).filter (fun i => b.testBit i.toNat)
theorem toK_mem (l : List S58) (b : Nat) (i : Int) : i ∈ toK l b ↔ i ∈ listed b l.length := by
  unfold toK
  rw [List.mem_filter, listed_mem]
  constructor
  · rintro ⟨h1, h2⟩
    have := byDueL_range l i h1
    exact ⟨i.toNat, by omega, by omega, h2⟩
  · rintro ⟨j, h1, rfl, h3⟩
    exact ⟨(byDueL_perm l).mem_iff.2 (iota_mem.2 (by omega)), by simpa using h3⟩
theorem toK_perm (l : List S58) (b : Nat) : (toK l b).Perm (listed b l.length) :=
  (List.perm_ext_iff_of_nodup ((List.filter_sublist).nodup (byDueL_nodup l)) (listed_nodup b _)).2 (toK_mem l b)
theorem fromK_perm {l : List S58} {K : List Int} (h : K.Sublist (byDueL l)) : (listed (bitsOf (fun j => decide ((j : Int) ∈ K)) l.length) l.length).Perm K := by
  refine (List.perm_ext_iff_of_nodup (listed_nodup _ _) (h.nodup (byDueL_nodup l))).2 (fun i => ?_)
  rw [listed_mem]
  constructor
  · rintro ⟨j, h1, rfl, h3⟩
    rw [bitsOf_bit _ _ _ h1] at h3
    exact of_decide_eq_true h3
  · intro hi
    have := byDueL_range l i (h.subset hi)
    obtain ⟨n, rfl⟩ := Int.eq_ofNat_of_zero_le this.1
    exact ⟨n, by omega, rfl, by rw [bitsOf_bit _ _ _ (by omega)]; exact decide_eq_true hi⟩
end Go.Proofs.Ytmlahfidnfdhbaa.Pr
