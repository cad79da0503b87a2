import Derived.Test.YtmlahfidnfdhbaaH8
set_option linter.unusedSimpArgs false
set_option linter.unusedVariables false
namespace Go.Proofs.Ytmlahfidnfdhbaa.Pr
open Go.RowKit Go.Proofs.YtmlahfidnfdhbaaW.PrintWords Go.Proofs.YtmlahfidnfdhbaaW.PrintLast Go.Proofs.YtmlahfidnfdhbaaW.PrintMore

/-- What the reference knows after the first lists by bits. -/
structure BestInv (l : List S58) (ws : List Int) (B : Nat) (out : List Int) (most : Int) : Prop where
  nn : 0 ≤ most
  zero : B = 0 → most = 0
  len : out.length ≤ B
  le : ∀ b, b < B → feas l ws (listed b l.length) → ((listed b l.length).length : Int) ≤ most
  mem : ∀ x ∈ out, ∃ b : Nat, b < B ∧ x = (b : Int) ∧ feas l ws (listed b l.length) ∧ ((listed b l.length).length : Int) = most
  all : ∀ b : Nat, b < B → feas l ws (listed b l.length) → ((listed b l.length).length : Int) = most → (b : Int) ∈ out
  ne : 0 < B → 0 < out.length
theorem best_skip {l : List S58} {ws : List Int} {B : Nat} {out : List Int} {most : Int} (h : BestInv l ws B out most) (hB : 0 < B) (hk : feas l ws (listed B l.length) → ((listed B l.length).length : Int) < most) : BestInv l ws (B + 1) out most := by
  refine ⟨h.nn, fun e => by omega, by have := h.len; omega, fun b hb hf => ?_, fun x hx => ?_, fun b hb hf he => ?_, fun _ => h.ne hB⟩
  · by_cases e : b = B
    · subst e; have := hk hf; omega
    · exact h.le b (by omega) hf
  · obtain ⟨b, h1, h2⟩ := h.mem x hx
    exact ⟨b, by omega, h2⟩
  · by_cases e : b = B
    · subst e; have := hk hf; omega
    · exact h.all b (by omega) hf he
theorem best_more {l : List S58} {ws : List Int} {B : Nat} {out : List Int} {most : Int} (h : BestInv l ws B out most) (hf : feas l ws (listed B l.length)) (hk : most < ((listed B l.length).length : Int)) : BestInv l ws (B + 1) [(B : Int)] ((listed B l.length).length : Int) := by
  refine ⟨by omega, fun e => by omega, by simp, fun b hb hf => ?_, fun x hx => ?_, fun b hb hf he => ?_, fun _ => by simp⟩
  · by_cases e : b = B
    · subst e; exact Int.le_refl _
    · have := h.le b (by omega) hf; omega
  · exact ⟨B, by omega, List.mem_singleton.1 hx, hf, rfl⟩
  · by_cases e : b = B
    · subst e; simp
    · have := h.le b (by omega) hf; omega
theorem best_same {l : List S58} {ws : List Int} {B : Nat} {out : List Int} {most : Int} (h : BestInv l ws B out most) (hf : feas l ws (listed B l.length)) (hk : most = ((listed B l.length).length : Int)) : BestInv l ws (B + 1) (out ++ [(B : Int)]) most := by
  refine ⟨h.nn, fun e => by omega, by have := h.len; simp; omega, fun b hb hf => ?_, fun x hx => ?_, fun b hb hf he => ?_, fun _ => by simp⟩
  · by_cases e : b = B
    · subst e; omega
    · exact h.le b (by omega) hf
  · rcases List.mem_append.1 hx with hx | hx
    · obtain ⟨b, h1, h2⟩ := h.mem x hx
      exact ⟨b, by omega, h2⟩
    · exact ⟨B, by omega, List.mem_singleton.1 hx, hf, hk.symm⟩
  · by_cases e : b = B
    · subst e; simp
    · exact List.mem_append_left _ (h.all b (by omega) hf he)
theorem listed_zero : ∀ n, listed 0 n = []
  | 0 => rfl
  | n + 1 => by unfold listed; rw [if_neg (by simp), listed_zero n]
theorem pow_le8 (n : Nat) (h : n ≤ 8) : 2 ^ n ≤ 256 := Nat.pow_le_pow_right (n := 2) (by omega) h
theorem best_loop {l : List S58} {side : Int} (h : checkO l = 0) (hs : side = 0 ∨ side = 1) (hl : l.length ≤ 8) : ∀ d B, 2 ^ l.length - B = d → B ≤ 2 ^ l.length → ∀ out most, BestInv l (worksOf side l) B out most →
    ∃ out' most', BestInv l (worksOf side l) (2 ^ l.length) out' most' ∧ Ev (fun k => fippleref05_Best.l0 k l side out most (B : Nat)) (out', most') := by
  have hp := pow_le8 l.length hl
  intro d
  induction d with
  | zero =>
    intro B h1 h2 out most inv
    obtain rfl : B = 2 ^ l.length := by omega
    refine ⟨out, most, inv, Ev.step (f := fun _ => some (out, most)) (fun k => ?_) (Ev.now _)⟩
    simp only [fippleref05_Best.l0]
    rw [shl_at l.length (by omega), if_neg (by omega)]
  | succ d ih =>
    intro B h1 h2 out most inv
    have hB : B < 2 ^ l.length := by omega
    have hlen := inv.len
    have hll := listed_len B l.length
    have hr : ∀ x ∈ listed B l.length, 0 ≤ x ∧ x < l.length := fun x hx => by
      obtain ⟨j, g1, g2, _⟩ := (listed_mem B _ x).1 hx
      omega
    have st : ∀ {v : List Int × Int}, Ev (fun k => if ((listed B l.length).length : Int) < most then (fippleref05_Best.j1 k l side out most (B : Nat) (listed B l.length) true) else ((fippleref05_CanKeep.f k l side (listed B l.length)).bind fun t324 => (fippleref05_Best.j1 k l side out most (B : Nat) (listed B l.length) (!t324)))) v →
        Ev (fun k => fippleref05_Best.l0 k l side out most (B : Nat)) v := by
      intro v hv
      refine Ev.step (f := fun k => (fippleref05_Listed.f k (B : Nat) (l.length : Int)).bind fun t321 => (if (t321.length : Int) < most then (fippleref05_Best.j1 k l side out most (B : Nat) t321 true) else ((fippleref05_CanKeep.f k l side t321).bind fun t324 => (fippleref05_Best.j1 k l side out most (B : Nat) t321 (!t324))))) (fun k => ?_) (Ev.bind (listed_ev B l.length (by omega) hl) hv)
      simp only [fippleref05_Best.l0]
      rw [shl_at l.length (by omega), if_pos (by omega)]
    have skip : ∀ {v : List Int × Int}, Ev (fun k => fippleref05_Best.l0 k l side out most ((B + 1 : Nat) : Int)) v → Ev (fun k => fippleref05_Best.j1 k l side out most (B : Nat) (listed B l.length) true) v := by
      intro v hv
      refine Ev.step (fun k => ?_) hv
      simp only [fippleref05_Best.j1]
      rw [if_pos trivial, w1 B (by omega)]
    by_cases hlt : ((listed B l.length).length : Int) < most
    · have hB0 : 0 < B := by
        rcases Nat.eq_zero_or_pos B with e | e
        · have := inv.zero e; omega
        · exact e
      obtain ⟨o, m, g1, g2⟩ := ih (B + 1) (by omega) (by omega) out most (best_skip inv hB0 (fun _ => hlt))
      refine ⟨o, m, g1, st ?_⟩
      simp only [if_pos hlt]
      exact skip g2
    · by_cases hf : feas l (worksOf side l) (listed B l.length)
      · have cont : ∀ {v : List Int × Int}, Ev (fun k => fippleref05_Best.j1 k l side out most (B : Nat) (listed B l.length) false) v → Ev (fun k => fippleref05_Best.l0 k l side out most (B : Nat)) v := by
          intro v hv
          refine st ?_
          simp only [if_neg hlt]
          refine Ev.bind (canKeep_ev h hs hr (by omega)) ?_
          simp only [decide_eq_true hf, Bool.not_true]
          exact hv
        by_cases hgt : ((listed B l.length).length : Int) > most
        · obtain ⟨o, m, g1, g2⟩ := ih (B + 1) (by omega) (by omega) _ _ (best_more inv hf hgt)
          refine ⟨o, m, g1, cont (Ev.step (fun k => ?_) g2)⟩
          simp only [fippleref05_Best.j1]
          rw [if_neg (by decide), if_pos hgt, if_pos (by simp), w1 B (by omega)]
          rfl
        · obtain ⟨o, m, g1, g2⟩ := ih (B + 1) (by omega) (by omega) _ _ (best_same inv hf (by omega))
          refine ⟨o, m, g1, cont (Ev.step (fun k => ?_) g2)⟩
          simp only [fippleref05_Best.j1]
          rw [if_neg (by decide), if_neg hgt, if_pos (by omega), w1 B (by omega)]
      · have hB0 : 0 < B := by
          rcases Nat.eq_zero_or_pos B with e | e
          · subst e
            rw [listed_zero] at hf
            exact absurd (by intro i hi; cases hi) hf
          · exact e
        obtain ⟨o, m, g1, g2⟩ := ih (B + 1) (by omega) (by omega) out most (best_skip inv hB0 (fun e => absurd e hf))
        refine ⟨o, m, g1, st ?_⟩
        simp only [if_neg hlt]
        refine Ev.bind (canKeep_ev h hs hr (by omega)) ?_
        simp only [decide_eq_false hf, Bool.not_false]
        exact skip g2
theorem best_ev {l : List S58} {side : Int} (h : checkO l = 0) (hs : side = 0 ∨ side = 1) (hl : l.length ≤ 8) :
    ∃ out most, BestInv l (worksOf side l) (2 ^ l.length) out most ∧ Ev (fun k => fippleref05_Best.f k l side) (out, most) := by
  obtain ⟨o, m, g1, g2⟩ := best_loop h hs hl (2 ^ l.length) 0 rfl (Nat.zero_le _) [] 0 ⟨by omega, fun _ => rfl, by simp, (fun b hb => by omega), (fun x hx => by cases hx), (fun b hb => by omega), (fun hb => by omega)⟩
  exact ⟨o, m, g1, g2⟩

/-! what both know -/
theorem cand_of_bits {l : List S58} {ws : List Int} {b : Nat} (a1 a2 : Int) (hf : feas l ws (listed b l.length)) (h2 : ¬ a2 ∈ listed b l.length) (h1 : a1 ∈ byDueL l → a1 ∈ listed b l.length) : cand l ws a1 a2 (byDueL l) (toK l b) :=
  ⟨List.filter_sublist, fun hm => h2 ((toK_mem l b a2).1 hm), fun hm => (toK_mem l b a1).2 (h1 hm), (feas_perm (toK_perm l b)).2 hf⟩
theorem bits_of_cand {l : List S58} {ws : List Int} {a1 a2 : Int} {K : List Int} (h : cand l ws a1 a2 (byDueL l) K) : ∃ b, b < 2 ^ l.length ∧ feas l ws (listed b l.length) ∧ (listed b l.length).length = K.length ∧ (∀ x, x ∈ listed b l.length ↔ x ∈ K) :=
  ⟨_, bitsOf_lt _ _, (feas_perm (fromK_perm h.1)).2 h.2.2.2, (fromK_perm h.1).length_eq, fun x => (fromK_perm h.1).mem_iff⟩
theorem neg_notin {l : List S58} {xs : List Int} (h : ∀ x ∈ xs, 0 ≤ x ∧ x < (l.length : Int)) : ¬ (-1 : Int) ∈ xs := fun hm => by have := h _ hm; omega
theorem listed_range (l : List S58) (b : Nat) : ∀ x ∈ listed b l.length, 0 ≤ x ∧ x < (l.length : Int) := fun x hx => by
  obtain ⟨j, g1, g2, _⟩ := (listed_mem b _ x).1 hx
  omega
theorem most_all {l : List S58} {side : Int} (h : checkO l = 0) (hs : side = 0 ∨ side = 1) {out : List Int} {most : Int} (inv : BestInv l (worksOf side l) (2 ^ l.length) out most) : mostOf l (worksOf side l) (-1) (-1) = most := by
  obtain ⟨g1, g2⟩ := mostOf_spec h hs (-1) (-1) (.inr ⟨rfl, rfl⟩)
  have hp : 0 < 2 ^ l.length := Nat.pow_pos (by omega)
  have hne := inv.ne hp
  have hge : most ≤ mostOf l (worksOf side l) (-1) (-1) := by
    obtain ⟨b, b1, b2, b3, b4⟩ := inv.mem out[0] (List.getElem_mem hne)
    have := g1 _ (cand_of_bits (-1) (-1) b3 (neg_notin (listed_range l b)) (fun hm => absurd hm (neg_notin (byDueL_range l))))
    rw [(toK_perm l b).length_eq] at this
    omega
  have hnn := inv.nn
  rcases g2 with e | ⟨K, k1, k2⟩
  · omega
  · obtain ⟨b, b1, b2, b3, _⟩ := bits_of_cand k1
    have := inv.le b b1 b2
    omega
theorem most_without {l : List S58} {side : Int} (h : checkO l = 0) (hs : side = 0 ∨ side = 1) {out : List Int} {most : Int} (inv : BestInv l (worksOf side l) (2 ^ l.length) out most) (i : Nat) (hi : i < l.length) : mostOf l (worksOf side l) (-1) (i : Nat) < most ↔ ∀ b : Nat, (b : Int) ∈ out → b.testBit i = true := by
  obtain ⟨g1, g2⟩ := mostOf_spec h hs (-1) (i : Nat) (.inl (by omega))
  have hnn := inv.nn
  constructor
  · intro hlt b hb
    obtain ⟨b', b1, b2, b3, b4⟩ := inv.mem _ hb
    obtain rfl : b = b' := by omega
    cases hc : b.testBit i
    · have hn : ¬ ((i : Nat) : Int) ∈ listed b l.length := by
        rw [listed_mem]
        rintro ⟨j, j1, j2, j3⟩
        obtain rfl : i = j := by omega
        rw [hc] at j3; cases j3
      have := g1 _ (cand_of_bits (-1) (i : Nat) b3 hn (fun hm => absurd hm (neg_notin (byDueL_range l))))
      rw [(toK_perm l b).length_eq] at this
      omega
    · rfl
  · intro hall
    rcases Int.lt_or_le (mostOf l (worksOf side l) (-1) (i : Nat)) most with hh | hh
    · exact hh
    · exfalso
      rcases g2 with e | ⟨K, k1, k2⟩
      · omega
      · obtain ⟨b, b1, b2, b3, b4⟩ := bits_of_cand k1
        have hle := inv.le b b1 b2
        have ht := hall b (inv.all b b1 b2 (by omega))
        exact k1.2.1 ((b4 _).1 ((listed_mem b _ _).2 ⟨i, hi, rfl, ht⟩))
theorem most_with {l : List S58} {side : Int} (h : checkO l = 0) (hs : side = 0 ∨ side = 1) {out : List Int} {most : Int} (inv : BestInv l (worksOf side l) (2 ^ l.length) out most) (i : Nat) (hi : i < l.length) : mostOf l (worksOf side l) (i : Nat) (-1) = most ↔ ∃ b : Nat, (b : Int) ∈ out ∧ b.testBit i = true := by
  obtain ⟨g1, g2⟩ := mostOf_spec h hs (i : Nat) (-1) (.inl (by omega))
  have hnn := inv.nn
  have hiL : ((i : Nat) : Int) ∈ byDueL l := (byDueL_perm l).mem_iff.2 (iota_mem.2 (by omega))
  constructor
  · intro he
    rcases g2 with e | ⟨K, k1, k2⟩
    · omega
    · obtain ⟨b, b1, b2, b3, b4⟩ := bits_of_cand k1
      refine ⟨b, inv.all b b1 b2 (by omega), ?_⟩
      obtain ⟨j, j1, j2, j3⟩ := (listed_mem b _ _).1 ((b4 _).2 (k1.2.2.1 hiL))
      obtain rfl : i = j := by omega
      exact j3
  · rintro ⟨b, hb, ht⟩
    obtain ⟨b', b1, b2, b3, b4⟩ := inv.mem _ hb
    obtain rfl : b = b' := by omega
    have := g1 _ (cand_of_bits (i : Nat) (-1) b3 (neg_notin (listed_range l b)) (fun _ => (listed_mem b _ _).2 ⟨i, hi, rfl, ht⟩))
    rw [(toK_perm l b).length_eq] at this
    rcases g2 with e | ⟨K, k1, k2⟩
    · omega
    · obtain ⟨c, c1, c2, c3, _⟩ := bits_of_cand k1
      have := inv.le c c1 c2
      omega

/-! Fewest and Kind -/
theorem refFewest_ev (l : List S58) (side : Int) (hw : checkO l = 0 → l.length ≤ 8) : ∃ v, late_Fewest.f l side = some v ∧ Ev (fun k => fippleref05_Fewest.f k l side) v := by
  refine ⟨_, rfl, ?_⟩
  unfold fippleref05_Fewest.f
  refine Ev.bind (checkSide_ev l side) ?_
  by_cases h : sideErr l side = 0
  · simp only [if_pos h]
    obtain ⟨h1, hs, _⟩ := sideErr_zero h
    obtain ⟨out, most, inv, ev⟩ := best_ev h1 hs (hw h1)
    refine Ev.bind ev ?_
    rw [most_all h1 hs inv]
    exact Ev.now _
  · simp only [if_neg h]
    refine Ev.bind (checkSide_ev l side) ?_
    exact Ev.now _
/-- How many bits are set at an index. -/
def bitCount (i : Nat) (out : List Int) : Nat := (out.filter (fun x => x.toNat.testBit i)).length
theorem bitCount_le (i : Nat) (out : List Int) : bitCount i out ≤ out.length := List.length_filter_le _ _
theorem kind_loop (out : List Int) (i : Nat) (hi : i < 8) (hr : ∀ x ∈ out, ∃ b : Nat, x = (b : Int) ∧ b < 256) (hl : out.length ≤ 1000) : ∀ d j, out.length - j = d → j ≤ out.length →
    Ev (fun k => fippleref05_Kind.l0 k (i : Nat) out ((bitCount i (out.take j) : Nat) : Int) (j : Nat)) (if bitCount i out = out.length then (2, 0) else (mn ((bitCount i out : Nat) : Int) 1, 0)) := by
  intro d
  induction d with
  | zero =>
    intro j h1 h2
    obtain rfl : j = out.length := by omega
    rw [List.take_length]
    refine Ev.step (f := fun _ => some (if bitCount i out = out.length then (2, 0) else (mn ((bitCount i out : Nat) : Int) 1, 0))) (fun k => ?_) (Ev.now _)
    simp only [fippleref05_Kind.l0]
    rw [if_neg (by omega)]
    by_cases he : bitCount i out = out.length
    · rw [if_pos (by omega), if_pos he]
    · rw [if_neg (by omega), if_neg he]
  | succ d ih =>
    intro j h1 h2
    have hj : j < out.length := by omega
    obtain ⟨b, b1, b2⟩ := hr _ (List.getElem_mem hj)
    have hc := bitCount_le i (out.take j)
    rw [List.length_take] at hc
    refine Ev.step (f := fun k => fippleref05_Kind.l0 k (i : Nat) out ((bitCount i (out.take (j + 1)) : Nat) : Int) ((j + 1 : Nat) : Int)) (fun k => ?_) (ih (j + 1) (by omega) (by omega))
    simp only [fippleref05_Kind.l0]
    rw [if_pos (by omega), if_pos (by omega), if_pos (by omega), rd_get out j hj, b1, bit_at b i b2 hi, w1 j (by omega)]
    have e : wrap64 (((bitCount i (out.take j) : Nat) : Int) + if b.testBit i = true then 1 else 0) = ((bitCount i (out.take (j + 1)) : Nat) : Int) := by
      have e2 : bitCount i (out.take (j + 1)) = bitCount i (out.take j) + if b.testBit i = true then 1 else 0 := by
        unfold bitCount
        rw [List.take_succ_eq_append_getElem hj, List.filter_append, List.length_append, b1]
        congr 1
        by_cases ht : b.testBit i = true
        · rw [List.filter_cons_of_pos (by simpa using ht), if_pos ht]; rfl
        · rw [List.filter_cons_of_neg (by simpa using ht), if_neg ht]; rfl
      rw [e2]
      split <;> (unfold wrap64; omega)
    rw [e]
theorem bitCount_all (i : Nat) (out : List Int) (hr : ∀ x ∈ out, ∃ b : Nat, x = (b : Int) ∧ b < 256) : bitCount i out = out.length ↔ ∀ b : Nat, (b : Int) ∈ out → b.testBit i = true := by
  unfold bitCount
  rw [List.length_filter_eq_length_iff]
  constructor
  · intro h b hb
    exact h _ hb
  · intro h x hx
    obtain ⟨b, rfl, _⟩ := hr x hx
    exact h b hx
theorem bitCount_pos (i : Nat) (out : List Int) (hr : ∀ x ∈ out, ∃ b : Nat, x = (b : Int) ∧ b < 256) : 0 < bitCount i out ↔ ∃ b : Nat, (b : Int) ∈ out ∧ b.testBit i = true := by
  unfold bitCount
  rw [List.length_pos_iff_exists_mem]
  constructor
  · rintro ⟨x, hx⟩
    obtain ⟨h1, h2⟩ := List.mem_filter.1 hx
    obtain ⟨b, rfl, _⟩ := hr x h1
    exact ⟨b, h1, h2⟩
  · rintro ⟨b, h1, h2⟩
    exact ⟨b, List.mem_filter.2 ⟨h1, h2⟩⟩
theorem refKind_ev (l : List S58) (side order : Int) (hw : checkO l = 0 → l.length ≤ 8) : ∃ v, late_Kind.f l side order = some v ∧ Ev (fun k => fippleref05_Kind.f k l side order) v := by
  refine ⟨_, rfl, ?_⟩
  unfold fippleref05_Kind.f
  refine Ev.bind (checkSide_ev l side) ?_
  by_cases h : sideErr l side = 0
  · simp only [if_pos h]
    obtain ⟨h1, hs, _⟩ := sideErr_zero h
    have hwi := within_one 0 ((l.length : Int) - 1) order
    by_cases hin : 0 ≤ order ∧ order < l.length
    · rw [if_pos (hwi.2 (by omega))]
      simp only [if_neg (show ¬ order < 0 by omega), decide_eq_false (show ¬ order ≥ (l.length : Int) by omega)]
      obtain ⟨i, rfl⟩ := Int.eq_ofNat_of_zero_le hin.1
      have hi : i < l.length := by omega
      have hl8 := hw h1
      obtain ⟨out, most, inv, ev⟩ := best_ev h1 hs hl8
      have hp := pow_le8 l.length hl8
      have hr : ∀ x ∈ out, ∃ b : Nat, x = (b : Int) ∧ b < 256 := fun x hx => by
        obtain ⟨b, b1, b2, _⟩ := inv.mem x hx
        exact ⟨b, b2, by omega⟩
      have hlen := inv.len
      have kl := kind_loop out i (by omega) hr (by omega) out.length 0 rfl (by omega)
      have m1 := most_without h1 hs inv i hi
      have m2 := most_with h1 hs inv i hi
      rw [most_all h1 hs inv]
      rw [← bitCount_all i out hr] at m1
      rw [← bitCount_pos i out hr] at m2
      have ev2 : Ev (fun k => fippleref05_Kind.j0 k l side ((i : Nat) : Int) false) (if bitCount i out = out.length then (2, 0) else (mn ((bitCount i out : Nat) : Int) 1, 0)) := by
        refine Ev.step (f := fun k => (fippleref05_Best.f k l side).bind fun bt339 => (fippleref05_Kind.l0 k ((i : Nat) : Int) bt339.1 0 0)) (fun k => ?_) (Ev.bind ev ?_)
        · simp only [fippleref05_Kind.j0]
          rw [if_neg (by decide)]
        · exact kl
      have e : (if mostOf l (worksOf side l) (-1) ((i : Nat) : Int) < most then ((2, 0) : Int × Int) else if mostOf l (worksOf side l) ((i : Nat) : Int) (-1) = most then (1, 0) else (0, 0)) = (if bitCount i out = out.length then (2, 0) else (mn ((bitCount i out : Nat) : Int) 1, 0)) := by
        by_cases c1 : bitCount i out = out.length
        · rw [if_pos (m1.2 c1), if_pos c1]
        · rw [if_neg (fun hh => c1 (m1.1 hh)), if_neg c1]
          by_cases c2 : 0 < bitCount i out
          · rw [if_pos (m2.2 c2)]
            have e1 : mn ((bitCount i out : Nat) : Int) 1 = 1 := by
              unfold mn
              split <;> omega
            rw [e1]
          · rw [if_neg (fun hh => c2 (m2.1 hh))]
            have : bitCount i out = 0 := by omega
            rw [this]
            rfl
      exact e ▸ ev2
    · rw [if_neg (fun hh => hin (by have := hwi.1 hh; omega))]
      have st : Ev (fun k => fippleref05_Kind.j0 k l side order true) ((0, 2) : Int × Int) := by
        refine Ev.step (f := fun _ => some (0, 2)) (fun k => ?_) (Ev.now _)
        simp only [fippleref05_Kind.j0]
        rw [if_pos trivial]
      by_cases hneg : order < 0
      · simp only [if_pos hneg]
        exact st
      · simp only [if_neg hneg, decide_eq_true (show order ≥ (l.length : Int) by omega)]
        exact st
  · simp only [if_neg h]
    refine Ev.bind (checkSide_ev l side) ?_
    exact Ev.now _
theorem wide_ev (l : List S58) : Ev (fun k => fipplelaw05_wide.f k l) (if (l.length : Int) > 8 then (checkO l == 0) else false) := by
  unfold fipplelaw05_wide.f
  by_cases h : (l.length : Int) > 8
  · simp only [if_pos h]
    exact Ev.bind (refCO_ev l) (Ev.now _)
  · simp only [if_neg h]
    exact Ev.now _
end Go.Proofs.Ytmlahfidnfdhbaa.Pr
