/- Lemmas for the laws of rack: C0, C3, E3, F2, D0, D2, B2, E4, RC. -/
import Derived.Test.YtpbemjdaanlaoaaN0
import Derived.Test.YtpbemjdaanlaoaaN1
import Derived.Deep.DeepCutAuto
import Derived.Ground.Names2Prog
import Derived.Ground.NamesProg
import Derived.Shelf.Slices.CompactI
import Derived.Shelf.Sort.Plain
import Derived.Test.YtpbemjdaanlaoaaPr0
import Derived.Shelf.Slices.In.SortNone
import Derived.Sort.OwnSortedInts
import Derived.Test.YtpbemjdaanlaoaaPr1
set_option linter.unusedVariables false
set_option linter.unusedSimpArgs false
set_option linter.unusedVariables false
set_option linter.unusedSimpArgs false
namespace Go.Proofs.Ytpbemjdaanlaoaa.Pr
open Go.RowKit Go.Proofs.YtpbemjdaanlaoaaW.PrintWords Go.Proofs.YtpbemjdaanlaoaaW.PrintLast Go.Proofs.YtpbemjdaanlaoaaW.PrintMore
open Go.Maps
set_option maxRecDepth 100000

/-- The rows when the last taper of a row is out. -/
def take0 (rows : List (List Int)) (row : Nat) : List (List Int) :=
  if (rd_L1 rows (row : Int)).length - 1 = 0 then (rows.set row ((rd_L1 rows (row : Int)).take ((rd_L1 rows (row : Int)).length - 1))).take row else rows.set row ((rd_L1 rows (row : Int)).take ((rd_L1 rows (row : Int)).length - 1))
def takeU (rows : List (List Int)) (row : Nat) : Int := rd (rd_L1 rows (row : Int)) (((rd_L1 rows (row : Int)).length - 1 : Nat) : Int)
/-- A taper on its way up; j rows are behind it. -/
def takeS (R : List (List Int)) (u : Int) (row : Nat) : Nat → List (List Int) × Int
  | 0 => (R, u)
  | j + 1 => ((takeS R u row j).1.set (row - 1 - j) ((rd_L1 (takeS R u row j).1 ((row - 1 - j : Nat) : Int)).set (geIdx (rd_L1 (takeS R u row j).1 ((row - 1 - j : Nat) : Int)) (takeS R u row j).2 - 1) (takeS R u row j).2),
      rd (rd_L1 (takeS R u row j).1 ((row - 1 - j : Nat) : Int)) ((geIdx (rd_L1 (takeS R u row j).1 ((row - 1 - j : Nat) : Int)) (takeS R u row j).2 - 1 : Nat) : Int))
def takeL (rows : List (List Int)) (row : Nat) : List (List Int) × Int := takeS (take0 rows row) (takeU rows row) row row
theorem takeS_len (R : List (List Int)) (u : Int) (row : Nat) : ∀ j, (takeS R u row j).1.length = R.length
  | 0 => rfl
  | j + 1 => by simp [takeS, takeS_len R u row j]
theorem take0_len (rows : List (List Int)) (row : Nat) (h : row < rows.length) : row ≤ (take0 rows row).length ∧ (take0 rows row).length ≤ rows.length := by
  unfold take0
  split
  · simp; omega
  · simp; omega
theorem take0_ok {rows : List (List Int)} (h : okR rows) (row : Nat) (hr : row < rows.length) : okR (take0 rows row) := by
  have h1 := okR_at h hr
  have h2 : okR (rows.set row ((rd_L1 rows (row : Int)).take ((rd_L1 rows (row : Int)).length - 1))) := okR_set h row ⟨by rw [List.length_take]; omega, fun x hx => h1.2 x (List.mem_of_mem_take hx)⟩
  unfold take0
  split
  · exact fun r hr2 => h2 r (List.mem_of_mem_take hr2)
  · exact h2
theorem takeS_ok {R : List (List Int)} {u : Int} {row : Nat} (h : okR R) (hu : wfi u) (hrow : row ≤ R.length) : ∀ j, j ≤ row → okR (takeS R u row j).1 ∧ wfi (takeS R u row j).2
  | 0, _ => ⟨h, hu⟩
  | j + 1, hj => by
    obtain ⟨i1, i2⟩ := takeS_ok h hu hrow j (by omega)
    have hl := takeS_len R u row j
    have h1 := okR_at i1 (k := row - 1 - j) (by omega)
    refine ⟨okR_set i1 _ ⟨by rw [List.length_set]; exact h1.1, fun x hx => ?_⟩, rd_wfi h1.2 _⟩
    rcases List.mem_or_eq_of_mem_set hx with h2 | h2
    · exact h1.2 x h2
    · rw [h2]; exact i2

/-- A row's header is cut. -/
theorem StandX.cut {O : Nat → Prop} {w : World} {base B g bm n : Nat} {t : Int} {D : DataW Unit} {go nn cap : Nat} {rows : List (List Int)} (h : StandX O w base B g bm n t D (.slice (some ⟨go, 0, none⟩) nn cap) rows) {k : Nat} (hk : k < rows.length) {oki : Nat → Prop} {Ak : Option Addr} {ck : Nat} {row : List Int}
    (hR : Kd.R (Kd.int .i64) 3 w base oki (.slice Ak row.length ck) row) (hoki : ∀ q, oki q → ((q ≠ B ∧ q ≠ bm) ∧ O q) ∧ q ≠ go) (hH : Kd.H (Kd.slice 3 (Kd.int .i64)) 32 w base (fun k => (k ≠ B ∧ k ≠ bm) ∧ O k) (.slice (some ⟨go, 0, none⟩) nn cap) rows (k : Int) oki [.slice Ak row.length ck]) {m : Nat} (hm : m ≤ row.length) :
    w.frozen? ⟨go, k, none⟩ = false ∧ base ≤ go ∧ O go ∧ StandX O (w.setCell ⟨go, k, none⟩ (.slice Ak m ck)) base B g bm n t D (.slice (some ⟨go, 0, none⟩) nn cap) (rows.set k (row.take m)) := by
  have hnn := (Kd.S_reads' h.row).1
  have eo : (Value.slice (some ⟨go, 0, none⟩) nn cap).ownBlock = some go := by simp [Value.ownBlock]
  obtain ⟨cells, hty⟩ := Kd.S_typed h.row go eo
  have e0 : (k : Int).toNat * (Kd.slice 3 (Kd.int .i64)).sz + 0 = k := by simp [Kd.slice]
  obtain ⟨hH2, hg2⟩ := Kd.H_seg (seg := [.slice Ak m ck]) (j := 0) hH (by omega) (by omega) (by simp [Kd.slice]) (fun q hq => by rw [List.mem_singleton.1 hq]; rfl)
  rw [e0] at hH2 hg2
  have hR2 := Kd.R_grown (Kd.R_take hR hm) hg2 (fun q hq e => by
    injection e with e
    subst e
    exact (hoki _ hq).2 rfl)
  have hS := Kd.H_back hH2 (Kd.M_row hR2) (fun _ hq => hq)
  rw [Int.toNat_natCast] at hS
  have hne : g ≠ go := fun e => by subst e; rw [h.blk] at hty; cases hty
  have hnB : B ≠ go := fun e => by subst e; rw [h.box] at hty; cases hty
  have hnm : bm ≠ go := fun e => by
    subst e
    obtain ⟨es, cl, hb⟩ := h.mapObj
    rw [hb] at hty; cases hty
  refine ⟨by simp [World.frozen?, hty], Kd.S_base h.row go eo, (h.row.choose_spec.1 _ eo).2, ?_, h.gb, h.bb, h.bB, h.og, h.ob, h.oB, hS, h.own.kept hg2 (fun e => hnm (by injection e)), ?_⟩
  · exact (hg2.block g (blk_lt h.blk) (fun e => hne (by injection e))).trans h.blk
  · exact (hg2.block B (blk_lt h.box) (fun e => hnB (by injection e))).trans h.box
/-- The list's header alone is written. -/
theorem StandX.head {O : Nat → Prop} {w : World} {base B g bm n : Nat} {t : Int} {D : DataW Unit} {v v' : Value} {rows rows' : List (List Int)} (h : StandX O w base B g bm n t D v rows) (hr : Kd.S (Kd.slice 3 (Kd.int .i64)) 32 w base (fun k => (k ≠ B ∧ k ≠ bm) ∧ O k) v' rows') : StandX O (w.setCell ⟨g, 0, none⟩ v') base B g bm n t D v' rows' := by
  have hg : w.grownBy (w.setCell ⟨g, 0, none⟩ v') (some g) := grown_set _ _ _ _
  have hb := h.blk
  obtain ⟨n1, n2, n3⟩ := h.ne
  refine ⟨blk_put hb 0 _ rfl, h.gb, h.bb, h.bB, h.og, h.ob, h.oB, ?_, h.own.kept hg (by simp [n1.symm]), ?_⟩
  · refine Kd.S_mono (Kd.S_grown (ok := fun k => ((k ≠ B ∧ k ≠ bm) ∧ O k) ∧ k ≠ g) (Kd.S_mono (Kd.S_bound hr) (fun k hk => ⟨hk.1, ?_⟩)) hg (fun k hk e => hk.2 (by injection e))) (fun k hk => hk.1)
    obtain ⟨_, _, _, q, hq, cells, hc⟩ := hk
    rintro rfl
    rw [hb] at hc
    simp only [Kd.slice, Kd.int, Kd.scalar, List.mem_cons, List.not_mem_nil, or_false] at hq
    injection hc with hc
    injection hc with _ hc
    subst hc
    rcases hq with hq | hq <;> exact absurd hq (by decide)
  · exact (hg.block B (blk_lt h.box) (fun e => n3 (by injection e with e; exact e.symm))).trans h.box
end Go.Proofs.Ytpbemjdaanlaoaa.Pr
set_option linter.unusedVariables false
set_option linter.unusedSimpArgs false
namespace Go.Proofs.Ytpbemjdaanlaoaa.Pr
open Go.RowKit Go.Proofs.YtpbemjdaanlaoaaW.PrintWords Go.Proofs.YtpbemjdaanlaoaaW.PrintLast Go.Proofs.YtpbemjdaanlaoaaW.PrintMore
set_option maxRecDepth 100000

theorem rdL_set_ne (R : List (List Int)) (k i : Nat) (r : List Int) (h : k ≠ i) : rd_L1 (R.set k r) (i : Int) = rd_L1 R (i : Int) := by
  unfold rd_L1
  simp only [Int.toNat_natCast]
  rw [List.getD_eq_getElem?_getD, List.getD_eq_getElem?_getD, List.getElem?_set_ne h]
theorem rdL_take (R : List (List Int)) (k i : Nat) (h : i < k) : rd_L1 (R.take k) (i : Int) = rd_L1 R (i : Int) := by
  unfold rd_L1
  simp only [Int.toNat_natCast]
  rw [List.getD_eq_getElem?_getD, List.getD_eq_getElem?_getD, List.getElem?_take_of_lt h]
theorem take0_at (rows : List (List Int)) (row i : Nat) (h : i < row) : rd_L1 (take0 rows row) (i : Int) = rd_L1 rows (i : Int) := by
  unfold take0
  split
  · rw [rdL_take _ _ _ h, rdL_set_ne _ _ _ _ (by omega)]
  · rw [rdL_set_ne _ _ _ _ (by omega)]
theorem takeS_at (R : List (List Int)) (u : Int) (row i : Nat) : ∀ j, j ≤ row → i + j < row → rd_L1 (takeS R u row j).1 (i : Int) = rd_L1 R (i : Int)
  | 0, _, _ => rfl
  | j + 1, hj, h => by
    show rd_L1 ((takeS R u row j).1.set (row - 1 - j) _) (i : Int) = _
    rw [rdL_set_ne _ _ _ _ (by omega)]
    exact takeS_at R u row i j (by omega) (by omega)
/-- The rack rises: what stands at a place. -/
theorem rises_pl {rows : List (List Int)} {b : Int} (h : risesB rows b = true) {i p : Nat} (hi : i < rows.length) (hp : p < (rd_L1 rows (i : Int)).length) : okPl rows b (i : Int) (p : Int) = true := by
  unfold risesB at h
  rw [Bool.and_eq_true, List.all_eq_true] at h
  have := h.2 i (by simpa using hi)
  rw [List.all_eq_true] at this
  exact this p (by simpa using hp)
theorem rises_sh {rows : List (List Int)} {b : Int} (h : risesB rows b = true) {i : Nat} (hi : i + 1 < rows.length) : (rd_L1 rows ((i + 1 : Nat) : Int)).length ≤ (rd_L1 rows (i : Int)).length := by
  unfold risesB at h
  rw [Bool.and_eq_true] at h
  have := (shB_iff rows).1 h.1 (i + 1) hi
  unfold shR at this
  simp only [Bool.and_eq_true, Bool.or_eq_true, decide_eq_true_eq] at this
  rcases this.2 with h2 | h2
  · omega
  · rwa [show (((i + 1 : Nat) : Int) - 1) = (i : Int) by omega] at h2
theorem rises_col {rows : List (List Int)} {b : Int} (h : risesB rows b = true) {i p : Nat} (hi : i + 1 < rows.length) (hp : p < (rd_L1 rows ((i + 1 : Nat) : Int)).length) : rd (rd_L1 rows (i : Int)) (p : Int) < rd (rd_L1 rows ((i + 1 : Nat) : Int)) (p : Int) := by
  have := rises_pl h hi hp
  unfold okPl at this
  rw [show (((i + 1 : Nat) : Int) - 1) = (i : Int) by omega] at this
  have h0 : (0 : Int) < ((i + 1 : Nat) : Int) := by omega
  simp only [Bool.not_eq_true', Bool.or_eq_false_iff, Bool.and_eq_false_iff, decide_eq_false_iff_not] at this
  rcases this.2 with h2 | h2
  · exact absurd h0 h2
  · omega
theorem rises_first {rows : List (List Int)} (h : risesB rows 0 = true) {i : Nat} (hi : i < rows.length) : ∀ p, p < (rd_L1 rows (i : Int)).length → rd (rd_L1 rows (i : Int)) 0 ≤ rd (rd_L1 rows (i : Int)) (p : Int)
  | 0, _ => Int.le_refl _
  | p + 1, hp => by
    have h1 := rises_first h hi p (by omega)
    have := rises_pl h hi hp
    unfold okPl at this
    rw [show (((p + 1 : Nat) : Int) - 1) = (p : Int) by omega] at this
    have h0 : (0 : Int) < ((p + 1 : Nat) : Int) := by omega
    simp only [Bool.not_eq_true', Bool.or_eq_false_iff, Bool.and_eq_false_iff, decide_eq_false_iff_not] at this
    rcases this.1 with h2 | h2
    · exact absurd h0 h2
    · omega
theorem geIdx_pos {l : List Int} {t : Int} (hl : 0 < l.length) (h : rd l 0 < t) : 0 < geIdx l t := by
  rcases Nat.eq_zero_or_pos (geIdx l t) with h0 | h0
  · exfalso
    unfold geIdx at h0
    rw [List.findIdx_eq hl] at h0
    have := h0.1
    have e := rd_get l 0 hl
    have e' : rd l 0 = l[0] := e
    rw [← e'] at this
    simp at this
    omega
  · exact h0
/-- What comes up out of a row stood there. -/
theorem takeS_up {rows : List (List Int)} {row : Nat} (h : risesB rows 0 = true) (hr : row < rows.length) (hne : 0 < (rd_L1 rows (row : Int)).length) : ∀ j, j ≤ row → ∃ p : Nat, p < (rd_L1 rows ((row - j : Nat) : Int)).length ∧ (takeS (take0 rows row) (takeU rows row) row j).2 = rd (rd_L1 rows ((row - j : Nat) : Int)) (p : Int)
  | 0, _ => ⟨(rd_L1 rows (row : Int)).length - 1, by simp only [Nat.sub_zero]; omega, rfl⟩
  | j + 1, hj => by
    have e : row - (j + 1) = row - 1 - j := by omega
    have e2 : rd_L1 (takeS (take0 rows row) (takeU rows row) row j).1 ((row - 1 - j : Nat) : Int) = rd_L1 rows ((row - 1 - j : Nat) : Int) := by
      rw [takeS_at _ _ _ _ j (by omega) (by omega), take0_at _ _ _ (by omega)]
    have hle := geIdx_le (rd_L1 rows ((row - 1 - j : Nat) : Int)) (takeS (take0 rows row) (takeU rows row) row j).2
    have hs := rises_sh h (i := row - 1 - j) (by omega)
    obtain ⟨p, hp, hq⟩ := takeS_up h hr hne j (by omega)
    have e3 : row - j = row - 1 - j + 1 := by omega
    rw [e3] at hp
    refine ⟨geIdx (rd_L1 rows ((row - 1 - j : Nat) : Int)) (takeS (take0 rows row) (takeU rows row) row j).2 - 1, by rw [e]; omega, ?_⟩
    rw [e]
    show rd (rd_L1 (takeS (take0 rows row) (takeU rows row) row j).1 ((row - 1 - j : Nat) : Int)) _ = _
    rw [e2]
theorem takeG {rows : List (List Int)} {row : Nat} (h : risesB rows 0 = true) (hr : row < rows.length) (hne : 0 < (rd_L1 rows (row : Int)).length) : ∀ j, j < row → 0 < geIdx (rd_L1 (takeS (take0 rows row) (takeU rows row) row j).1 ((row - 1 - j : Nat) : Int)) (takeS (take0 rows row) (takeU rows row) row j).2 := by
  intro j hj
  rw [takeS_at _ _ _ _ j (by omega) (by omega), take0_at _ _ _ (by omega)]
  obtain ⟨p, hp, hq⟩ := takeS_up h hr hne j (by omega)
  have e3 : row - j = row - 1 - j + 1 := by omega
  rw [e3] at hp hq
  have hs := rises_sh h (i := row - 1 - j) (by omega)
  have hc := rises_col h (i := row - 1 - j) (by omega) hp
  have hf := rises_first h (i := row - 1 - j) (by omega) p (by omega)
  rw [hq]
  exact geIdx_pos (by omega) (by omega)
end Go.Proofs.Ytpbemjdaanlaoaa.Pr
set_option linter.unusedVariables false
set_option linter.unusedSimpArgs false
namespace Go.Proofs.Ytpbemjdaanlaoaa.Pr
open Go.RowKit Go.Proofs.YtpbemjdaanlaoaaW.PrintWords Go.Proofs.YtpbemjdaanlaoaaW.PrintLast Go.Proofs.YtpbemjdaanlaoaaW.PrintMore
set_option maxRecDepth 100000

/-! A taper that is taken leaves a rack: the numbers, and where they stand. -/
def Ln (rows : List (List Int)) (i : Nat) : Nat := (rd_L1 rows (i : Int)).length
def Xx (rows : List (List Int)) (i p : Nat) : Int := rd (rd_L1 rows (i : Int)) (p : Int)
theorem Ln_out {rows : List (List Int)} {i : Nat} (h : rows.length ≤ i) : Ln rows i = 0 := by
  unfold Ln rd_L1
  rw [List.getD_eq_getElem?_getD, List.getElem?_eq_none (by omega)]; rfl
/-- Rows that stand as those of a rack. -/
structure Rk (rows : List (List Int)) : Prop where
  pos : ∀ k, k < rows.length → 0 < Ln rows k
  sh : ∀ k, k + 1 < rows.length → Ln rows (k + 1) ≤ Ln rows k
  row : ∀ i p, i < rows.length → p + 1 < Ln rows i → Xx rows i p ≤ Xx rows i (p + 1)
  col : ∀ i p, i + 1 < rows.length → p < Ln rows (i + 1) → Xx rows i p < Xx rows (i + 1) p
theorem okPl_iff (rows : List (List Int)) (b : Int) (i p : Nat) : okPl rows b (i : Int) (p : Int) = true ↔ (0 < p → Xx rows i (p - 1) + b ≤ Xx rows i p) ∧ (0 < i → Xx rows (i - 1) p < Xx rows i p) := by
  unfold okPl Xx
  simp only [Bool.not_eq_true', Bool.or_eq_false_iff, Bool.and_eq_false_iff, decide_eq_false_iff_not]
  constructor
  · rintro ⟨h1, h2⟩
    refine ⟨fun hp => ?_, fun hi => ?_⟩
    · rw [show ((p - 1 : Nat) : Int) = (p : Int) - 1 by omega]
      rcases h1 with h1 | h1
      · omega
      · omega
    · rw [show ((i - 1 : Nat) : Int) = (i : Int) - 1 by omega]
      rcases h2 with h2 | h2
      · omega
      · omega
  · rintro ⟨h1, h2⟩
    constructor
    · by_cases hp : 0 < p
      · have := h1 hp
        rw [show ((p - 1 : Nat) : Int) = (p : Int) - 1 by omega] at this
        right; omega
      · left; omega
    · by_cases hi : 0 < i
      · have := h2 hi
        rw [show ((i - 1 : Nat) : Int) = (i : Int) - 1 by omega] at this
        right; omega
      · left; omega
theorem shR_iff (rows : List (List Int)) (k : Nat) : shR rows k = true ↔ 0 < Ln rows k ∧ (0 < k → Ln rows k ≤ Ln rows (k - 1)) := by
  unfold shR Ln
  simp only [Bool.and_eq_true, Bool.or_eq_true, decide_eq_true_eq]
  constructor
  · rintro ⟨h1, h2⟩
    refine ⟨h1, fun hk => ?_⟩
    rw [show ((k - 1 : Nat) : Int) = (k : Int) - 1 by omega]
    rcases h2 with h2 | h2
    · omega
    · exact h2
  · rintro ⟨h1, h2⟩
    refine ⟨h1, ?_⟩
    by_cases hk : 0 < k
    · right
      have := h2 hk
      rwa [show ((k - 1 : Nat) : Int) = (k : Int) - 1 by omega] at this
    · left; omega
theorem rises_iff (rows : List (List Int)) (b : Int) : risesB rows b = true ↔ (∀ k, k < rows.length → 0 < Ln rows k ∧ (0 < k → Ln rows k ≤ Ln rows (k - 1))) ∧ ∀ i p, i < rows.length → p < Ln rows i → (0 < p → Xx rows i (p - 1) + b ≤ Xx rows i p) ∧ (0 < i → Xx rows (i - 1) p < Xx rows i p) := by
  unfold risesB
  rw [Bool.and_eq_true, shB_iff, List.all_eq_true]
  simp only [List.mem_range, List.all_eq_true, okPl_iff, shR_iff]
  exact ⟨fun ⟨a, b⟩ => ⟨a, fun i p hi hp => b i hi p hp⟩, fun ⟨a, b⟩ => ⟨a, fun i hi p hp => b i p hi hp⟩⟩
theorem Rk.of {rows : List (List Int)} (h : risesB rows 0 = true) : Rk rows := by
  obtain ⟨h1, h2⟩ := (rises_iff rows 0).1 h
  refine ⟨fun k hk => (h1 k hk).1, fun k hk => ?_, fun i p hi hp => ?_, fun i p hi hp => ?_⟩
  · exact (h1 (k + 1) hk).2 (by omega)
  · have := (h2 i (p + 1) hi hp).1 (by omega)
    simpa using this
  · have := (h2 (i + 1) p hi hp).2 (by omega)
    simpa using this
theorem Rk.to {rows : List (List Int)} (h : Rk rows) : risesB rows 0 = true := by
  refine (rises_iff rows 0).2 ⟨fun k hk => ⟨h.pos k hk, fun h0 => ?_⟩, fun i p hi hp => ⟨fun h0 => ?_, fun h0 => ?_⟩⟩
  · obtain ⟨j, rfl⟩ : ∃ j, k = j + 1 := ⟨k - 1, by omega⟩
    exact h.sh j hk
  · obtain ⟨j, rfl⟩ : ∃ j, p = j + 1 := ⟨p - 1, by omega⟩
    have := h.row i j hi hp
    simpa using this
  · obtain ⟨j, rfl⟩ : ∃ j, i = j + 1 := ⟨i - 1, by omega⟩
    exact h.col j p hi hp
theorem Rk.mono {rows : List (List Int)} (h : Rk rows) {i p : Nat} (hi : i < rows.length) : ∀ d, p + d < Ln rows i → Xx rows i p ≤ Xx rows i (p + d)
  | 0, _ => Int.le_refl _
  | d + 1, hd => by
    have h1 := h.mono (p := p) hi d (by omega)
    have h2 := h.row i (p + d) hi (by omega)
    have e : p + d + 1 = p + (d + 1) := by omega
    rw [e] at h2
    omega
theorem ge_lt {l : List Int} {u : Int} {k : Nat} (h : k < geIdx l u) : rd l (k : Int) < u := by
  have hl : k < l.length := Nat.lt_of_lt_of_le h (geIdx_le l u)
  have := List.not_of_lt_findIdx (p := fun n => decide (n ≥ u)) (xs := l) h
  rw [rd_get l k hl]
  simp at this
  exact this
theorem ge_at {l : List Int} {u : Int} (h : geIdx l u < l.length) : u ≤ rd l ((geIdx l u : Nat) : Int) := by
  rw [rd_get l _ h]
  have := List.findIdx_getElem (p := fun n => decide (n ≥ u)) (xs := l) (w := h)
  exact of_decide_eq_true this
theorem rdL_set_eq (R : List (List Int)) (k : Nat) (r : List Int) (h : k < R.length) : rd_L1 (R.set k r) (k : Int) = r := by
  unfold rd_L1
  simp only [Int.toNat_natCast]
  rw [List.getD_eq_getElem?_getD, List.getElem?_set_self h]; rfl
theorem rd_set_eq (l : List Int) (k : Nat) (x : Int) (h : k < l.length) : rd (l.set k x) (k : Int) = x := by
  unfold rd
  simp only [Int.toNat_natCast]
  rw [List.getD_eq_getElem?_getD, List.getElem?_set_self h]; rfl
theorem rd_set_ne (l : List Int) (k j : Nat) (x : Int) (h : k ≠ j) : rd (l.set k x) (j : Int) = rd l (j : Int) := by
  unfold rd
  simp only [Int.toNat_natCast]
  rw [List.getD_eq_getElem?_getD, List.getD_eq_getElem?_getD, List.getElem?_set_ne h]
theorem rd_take (l : List Int) (m j : Nat) (h : j < m) : rd (l.take m) (j : Int) = rd l (j : Int) := by
  unfold rd
  simp only [Int.toNat_natCast]
  rw [List.getD_eq_getElem?_getD, List.getD_eq_getElem?_getD, List.getElem?_take_of_lt h]

section
variable {rows : List (List Int)} {row : Nat}
/-- What goes up out of row i, and from where. -/
def upv (rows : List (List Int)) (row i : Nat) : Int := (takeS (take0 rows row) (takeU rows row) row (row - i)).2
def pps (rows : List (List Int)) (row i : Nat) : Nat := if i < row then geIdx (rd_L1 rows (i : Int)) (upv rows row (i + 1)) - 1 else Ln rows row - 1
theorem up_step {i : Nat} (h : i ≤ row) : upv rows row i = Xx rows i (pps rows row i) := by
  unfold upv pps
  by_cases hi : i < row
  · rw [if_pos hi]
    have e1 : row - i = (row - 1 - i) + 1 := by omega
    have e2 : row - (i + 1) = row - 1 - i := by omega
    have e3 : row - 1 - (row - 1 - i) = i := by omega
    rw [e1]
    show rd (rd_L1 (takeS _ _ row (row - 1 - i)).1 ((row - 1 - (row - 1 - i) : Nat) : Int)) ((geIdx (rd_L1 (takeS _ _ row (row - 1 - i)).1 ((row - 1 - (row - 1 - i) : Nat) : Int)) (takeS _ _ row (row - 1 - i)).2 - 1 : Nat) : Int) = _
    rw [e3, takeS_at _ _ _ _ _ (by omega) (by omega), take0_at _ _ _ hi]
    unfold Xx upv
    rw [e2]
  · obtain rfl : i = row := by omega
    rw [if_neg (by omega), Nat.sub_self]
    rfl
theorem step_at {i : Nat} (hr : row < rows.length) (h : i < row) : ∀ d, d ≤ i → rd_L1 (takeS (take0 rows row) (takeU rows row) row (row - i + d)).1 (i : Int) = (rd_L1 rows (i : Int)).set (pps rows row i) (upv rows row (i + 1))
  | 0, _ => by
    unfold pps upv
    rw [if_pos h]
    have e1 : row - i + 0 = (row - 1 - i) + 1 := by omega
    have e2 : row - (i + 1) = row - 1 - i := by omega
    have e3 : row - 1 - (row - 1 - i) = i := by omega
    rw [e1]
    show rd_L1 ((takeS _ _ row (row - 1 - i)).1.set (row - 1 - (row - 1 - i)) ((rd_L1 (takeS _ _ row (row - 1 - i)).1 ((row - 1 - (row - 1 - i) : Nat) : Int)).set (geIdx (rd_L1 (takeS _ _ row (row - 1 - i)).1 ((row - 1 - (row - 1 - i) : Nat) : Int)) (takeS _ _ row (row - 1 - i)).2 - 1) (takeS _ _ row (row - 1 - i)).2)) (i : Int) = _
    rw [e3, rdL_set_eq _ _ _ (by rw [takeS_len]; have := (take0_len rows row hr).1; omega), takeS_at _ _ _ _ _ (by omega) (by omega), take0_at _ _ _ h, e2]
  | d + 1, hd => by
    have := step_at hr h d (by omega)
    rw [← this]
    show rd_L1 ((takeS _ _ row (row - i + d)).1.set (row - 1 - (row - i + d)) _) (i : Int) = _
    rw [rdL_set_ne _ _ _ _ (by omega)]
theorem step_rest {i : Nat} (h : row ≤ i) : ∀ J, J ≤ row → rd_L1 (takeS (take0 rows row) (takeU rows row) row J).1 (i : Int) = rd_L1 (take0 rows row) (i : Int)
  | 0, _ => rfl
  | J + 1, hJ => by
    rw [← step_rest h J (by omega)]
    show rd_L1 ((takeS _ _ row J).1.set (row - 1 - J) _) (i : Int) = _
    rw [rdL_set_ne _ _ _ _ (by omega)]
theorem takeL_at {i : Nat} (hr : row < rows.length) (h : i < row) : rd_L1 (takeL rows row).1 (i : Int) = (rd_L1 rows (i : Int)).set (pps rows row i) (upv rows row (i + 1)) := by
  have := step_at (rows := rows) hr h i (Nat.le_refl _)
  rw [show row - i + i = row by omega] at this
  exact this
theorem takeL_rest {i : Nat} (h : row ≤ i) : rd_L1 (takeL rows row).1 (i : Int) = rd_L1 (take0 rows row) (i : Int) := step_rest h row (Nat.le_refl _)
theorem takeL_len : (takeL rows row).1.length = (take0 rows row).length := takeS_len _ _ _ _
/-- At a row at which one can be taken. -/
structure Corner (rows : List (List Int)) (row : Nat) : Prop where
  lt : row < rows.length
  nx : row + 1 < rows.length → Ln rows (row + 1) < Ln rows row
theorem take0_row (h : Rk rows) (hc : Corner rows row) : rd_L1 (take0 rows row) (row : Int) = (rd_L1 rows (row : Int)).take (Ln rows row - 1) ∧ (∀ i, row < i → rd_L1 (take0 rows row) (i : Int) = rd_L1 rows (i : Int)) ∧ (take0 rows row).length = (if Ln rows row = 1 then row else rows.length) ∧ (Ln rows row = 1 → row + 1 = rows.length) := by
  have hp := h.pos row hc.lt
  have hl1 : Ln rows row = 1 → row + 1 = rows.length := by
    intro h1
    by_cases hh : row + 1 < rows.length
    · have := hc.nx hh
      have := h.pos (row + 1) hh
      omega
    · have := hc.lt; omega
  have hne : ∀ i, row < i → rd_L1 (rows.set row ((rd_L1 rows (row : Int)).take (Ln rows row - 1))) (i : Int) = rd_L1 rows (i : Int) := fun i hi => rdL_set_ne _ _ _ _ (by omega)
  have hself := rdL_set_eq rows row ((rd_L1 rows (row : Int)).take (Ln rows row - 1)) hc.lt
  unfold take0
  show rd_L1 (if Ln rows row - 1 = 0 then (rows.set row ((rd_L1 rows (row : Int)).take (Ln rows row - 1))).take row else rows.set row ((rd_L1 rows (row : Int)).take (Ln rows row - 1))) (row : Int) = _ ∧ (∀ i : Nat, row < i → rd_L1 (if Ln rows row - 1 = 0 then (rows.set row ((rd_L1 rows (row : Int)).take (Ln rows row - 1))).take row else rows.set row ((rd_L1 rows (row : Int)).take (Ln rows row - 1))) (i : Int) = _) ∧ List.length (if Ln rows row - 1 = 0 then (rows.set row ((rd_L1 rows (row : Int)).take (Ln rows row - 1))).take row else rows.set row ((rd_L1 rows (row : Int)).take (Ln rows row - 1))) = _ ∧ _
  by_cases h1 : Ln rows row = 1
  · have h0 : Ln rows row - 1 = 0 := by omega
    have hrl := hl1 h1
    have hnone : ∀ i : Nat, row ≤ i → ∀ R : List (List Int), rd_L1 (R.take row) (i : Int) = [] := fun i hi R => by
      unfold rd_L1
      rw [List.getD_eq_getElem?_getD, List.getElem?_eq_none (by simp; omega)]; rfl
    rw [if_pos h0, if_pos h1, h0]
    refine ⟨by rw [hnone row (Nat.le_refl _)]; simp, fun i hi => ?_, by simp; omega, fun _ => hrl⟩
    rw [hnone i (by omega)]
    unfold rd_L1
    rw [List.getD_eq_getElem?_getD, List.getElem?_eq_none (by simp; omega)]; rfl
  · rw [if_neg (by omega), if_neg h1]
    exact ⟨hself, hne, by simp, fun h => absurd h h1⟩
theorem geq (h : Rk rows) (hc : Corner rows row) {i : Nat} (hi : i < row) : 0 < geIdx (rd_L1 rows (i : Int)) (upv rows row (i + 1)) := by
  have := takeG h.to hc.lt (h.pos row hc.lt) (row - 1 - i) (by omega)
  rw [takeS_at _ _ _ _ _ (by omega) (by omega), take0_at _ _ _ (by omega)] at this
  rw [show row - 1 - (row - 1 - i) = i by omega] at this
  unfold upv
  rwa [show row - (i + 1) = row - 1 - i by omega]
theorem pps_lt (h : Rk rows) (hc : Corner rows row) {i : Nat} (hi : i ≤ row) : pps rows row i < Ln rows i := by
  unfold pps
  by_cases h1 : i < row
  · rw [if_pos h1]
    have := geq h hc h1
    have h2 := geIdx_le (rd_L1 rows (i : Int)) (upv rows row (i + 1))
    show _ < (rd_L1 rows (i : Int)).length
    omega
  · obtain rfl : i = row := by omega
    rw [if_neg (by omega)]
    have := h.pos i hc.lt
    omega
theorem up_lt (h : Rk rows) (hc : Corner rows row) {i : Nat} (hi : i < row) : upv rows row i < upv rows row (i + 1) := by
  rw [up_step (by omega)]
  unfold pps
  rw [if_pos hi]
  have := geq h hc hi
  exact ge_lt (by omega)
theorem up_le (h : Rk rows) (hc : Corner rows row) {i k : Nat} (hi : i < row) (hk : pps rows row i < k) (hkl : k < Ln rows i) : upv rows row (i + 1) ≤ Xx rows i k := by
  have h0 := geq h hc hi
  have hp : pps rows row i = geIdx (rd_L1 rows (i : Int)) (upv rows row (i + 1)) - 1 := by unfold pps; rw [if_pos hi]
  have hlt : geIdx (rd_L1 rows (i : Int)) (upv rows row (i + 1)) < (rd_L1 rows (i : Int)).length := by
    have : k < (rd_L1 rows (i : Int)).length := hkl
    omega
  have h1 := ge_at hlt
  have h2 := h.mono (p := geIdx (rd_L1 rows (i : Int)) (upv rows row (i + 1))) (i := i) (by have := hc.lt; omega) (k - geIdx (rd_L1 rows (i : Int)) (upv rows row (i + 1))) (by omega)
  rw [show geIdx (rd_L1 rows (i : Int)) (upv rows row (i + 1)) + (k - geIdx (rd_L1 rows (i : Int)) (upv rows row (i + 1))) = k by omega] at h2
  have h3 : Xx rows i (geIdx (rd_L1 rows (i : Int)) (upv rows row (i + 1))) = rd (rd_L1 rows (i : Int)) ((geIdx (rd_L1 rows (i : Int)) (upv rows row (i + 1)) : Nat) : Int) := rfl
  omega
theorem pps_le (h : Rk rows) (hc : Corner rows row) {i : Nat} (hi : i < row) : pps rows row (i + 1) ≤ pps rows row i := by
  have hl := pps_lt h hc (i := i + 1) (by omega)
  have h1 := h.col i (pps rows row (i + 1)) (by have := hc.lt; omega) hl
  rw [← up_step (by omega)] at h1
  have hs := h.sh i (by have := hc.lt; omega)
  rcases Nat.lt_or_ge (pps rows row i) (pps rows row (i + 1)) with h2 | h2
  · have := up_le h hc hi h2 (by omega)
    omega
  · exact h2
theorem Ln_takeL (h : Rk rows) (hc : Corner rows row) (i : Nat) : Ln (takeL rows row).1 i = if i = row then Ln rows row - 1 else Ln rows i := by
  obtain ⟨t1, t2, _, _⟩ := take0_row h hc
  by_cases h1 : i = row
  · subst h1
    rw [if_pos rfl]
    show (rd_L1 (takeL rows i).1 (i : Int)).length = _
    rw [takeL_rest (Nat.le_refl _), t1, List.length_take]
    show min _ (Ln rows i) = _
    omega
  · rw [if_neg h1]
    rcases Nat.lt_or_ge i row with h2 | h2
    · show (rd_L1 (takeL rows row).1 (i : Int)).length = _
      rw [takeL_at hc.lt h2, List.length_set]; rfl
    · show (rd_L1 (takeL rows row).1 (i : Int)).length = _
      rw [takeL_rest h2, t2 i (by omega)]; rfl
theorem Xx_takeL (h : Rk rows) (hc : Corner rows row) {i p : Nat} (hp : p < Ln (takeL rows row).1 i) : Xx (takeL rows row).1 i p = if i < row ∧ p = pps rows row i then upv rows row (i + 1) else Xx rows i p := by
  obtain ⟨t1, t2, _, _⟩ := take0_row h hc
  have hl := Ln_takeL h hc i
  unfold Xx
  rcases Nat.lt_or_ge i row with h2 | h2
  · rw [takeL_at hc.lt h2]
    by_cases h3 : p = pps rows row i
    · subst h3
      rw [if_pos ⟨h2, rfl⟩, rd_set_eq _ _ _ (by have := pps_lt h hc (i := i) (by omega); exact this)]
    · rw [if_neg (fun e => h3 e.2), rd_set_ne _ _ _ _ (fun e => h3 e.symm)]
  · rw [if_neg (by omega), takeL_rest h2]
    by_cases h1 : i = row
    · subst h1
      rw [t1, rd_take _ _ _ (by rw [if_pos rfl] at hl; omega)]
    · rw [t2 i (by omega)]
theorem takeL_len2 (h : Rk rows) (hc : Corner rows row) (i : Nat) : i < (takeL rows row).1.length ↔ 0 < Ln (takeL rows row).1 i := by
  obtain ⟨_, _, t3, t4⟩ := take0_row h hc
  rw [takeL_len, t3, Ln_takeL h hc]
  have hp := h.pos row hc.lt
  by_cases h1 : Ln rows row = 1
  · have hrl := t4 h1
    rw [if_pos h1]
    by_cases h2 : i = row
    · rw [if_pos h2]; omega
    · rw [if_neg h2]
      rcases Nat.lt_or_ge i rows.length with h3 | h3
      · have := h.pos i h3; omega
      · rw [Ln_out h3]; omega
  · rw [if_neg h1]
    by_cases h2 : i = row
    · rw [if_pos h2]; have := hc.lt; omega
    · rw [if_neg h2]
      rcases Nat.lt_or_ge i rows.length with h3 | h3
      · have := h.pos i h3; omega
      · rw [Ln_out h3]; omega
theorem takeL_rk (h : Rk rows) (hc : Corner rows row) : Rk (takeL rows row).1 := by
  have hlt := fun i => takeL_len2 h hc i
  have hle : (takeL rows row).1.length ≤ rows.length := by rw [takeL_len]; exact (take0_len rows row hc.lt).2
  refine ⟨fun k hk => (hlt k).1 hk, fun k hk => ?_, fun i p hi hp => ?_, fun i p hi hp => ?_⟩
  · have h1 := h.sh k (by omega)
    rw [Ln_takeL h hc, Ln_takeL h hc]
    by_cases e1 : k + 1 = row
    · rw [if_pos e1, if_neg (by omega)]
      rw [e1] at h1; omega
    · rw [if_neg e1]
      by_cases e2 : k = row
      · subst e2
        rw [if_pos rfl]
        have := hc.nx (by omega)
        omega
      · rw [if_neg e2]; exact h1
  · have hl := Ln_takeL h hc i
    have hp2 : p + 1 < Ln rows i := by
      rw [hl] at hp
      split at hp
      · rename_i e; subst e; omega
      · exact hp
    rw [Xx_takeL h hc (show p < Ln (takeL rows row).1 i by omega), Xx_takeL h hc hp]
    have hr := h.row i p (by omega) hp2
    by_cases e1 : i < row ∧ p = pps rows row i
    · rw [if_pos e1, if_neg (by omega)]
      exact up_le h hc e1.1 (by omega) hp2
    · rw [if_neg e1]
      by_cases e2 : i < row ∧ p + 1 = pps rows row i
      · rw [if_pos e2]
        have := up_lt h hc e2.1
        rw [up_step (by omega), ← e2.2] at this
        omega
      · rw [if_neg e2]; exact hr
  · have hl := Ln_takeL h hc (i + 1)
    have hl0 := Ln_takeL h hc i
    have hp2 : p < Ln rows (i + 1) := by
      rw [hl] at hp
      split at hp
      · rename_i e; subst e; omega
      · exact hp
    have hs := h.sh i (by omega)
    have hcol := h.col i p (by omega) hp2
    have hp3 : p < Ln (takeL rows row).1 i := by
      rw [hl0]
      split
      · rename_i e
        have := hc.nx (by omega)
        subst e; omega
      · omega
    rw [Xx_takeL h hc hp3, Xx_takeL h hc hp]
    have hbig : i < row → p = pps rows row i → upv rows row (i + 1) < (if i + 1 < row ∧ p = pps rows row (i + 1) then upv rows row (i + 1 + 1) else Xx rows (i + 1) p) := by
      intro hir hpe
      have hpl := pps_le h hc hir
      by_cases e2 : i + 1 < row ∧ p = pps rows row (i + 1)
      · rw [if_pos e2]
        exact up_lt h hc e2.1
      · rw [if_neg e2]
        rcases Nat.lt_or_ge (i + 1) row with h3 | h3
        · have h4 := up_le h hc h3 (show pps rows row (i + 1) < p by omega) hp2
          have h5 := up_lt h hc h3
          omega
        · exfalso
          have e : i + 1 = row := by omega
          rw [if_pos e] at hl
          have : pps rows row (i + 1) = Ln rows row - 1 := by unfold pps; rw [if_neg (by omega)]
          omega
    have hmono : Xx rows (i + 1) p ≤ (if i + 1 < row ∧ p = pps rows row (i + 1) then upv rows row (i + 1 + 1) else Xx rows (i + 1) p) := by
      by_cases e2 : i + 1 < row ∧ p = pps rows row (i + 1)
      · rw [if_pos e2]
        have := up_lt h hc e2.1
        rw [up_step (by omega), ← e2.2] at this
        omega
      · rw [if_neg e2]; exact Int.le_refl _
    by_cases e1 : i < row ∧ p = pps rows row i
    · rw [if_pos e1]
      exact hbig e1.1 e1.2
    · rw [if_neg e1]
      omega
end
end Go.Proofs.Ytpbemjdaanlaoaa.Pr
set_option linter.unusedVariables false
set_option linter.unusedSimpArgs false
namespace Go.Proofs.Ytpbemjdaanlaoaa.Pr
open Go.RowKit Go.Proofs.YtpbemjdaanlaoaaW.PrintWords Go.Proofs.YtpbemjdaanlaoaaW.PrintLast Go.Proofs.YtpbemjdaanlaoaaW.PrintMore
open Go.Maps
set_option maxRecDepth 100000

set_option maxHeartbeats 4000000 in
theorem takeOf56 (A0 : Option Addr) (c0 : Nat) (rows : List (List Int)) (row : Nat) (w : World) (hr0 : Kd.C (Kd.slice 3 (Kd.int .i64)) w A0 rows.length rows) (hc0 : rows.length ≤ c0) (hl : rows.length ≤ 1000) (hlL : lenL 1000 rows) (hrk : Rk rows) (hc : Corner rows row) :
    Calls Try.prog 56 #[.slice A0 rows.length c0, .int .i64 (row : Int)] w fun e w' => ∃ v0_ : Value, e = .returned (.tuple #[v0_, .int .i64 (takeL rows row).2]) ∧ Kd.S (Kd.slice 3 (Kd.int .i64)) 32 w' w.heap.size (fun _ => True) v0_ (takeL rows row).1 ∧ Below w.heap.size w w' := by
  have h85 := copy85 A0 c0 rows w hr0 hc0 hl hlL
  have hrl := hc.lt
  have hpos : 0 < (rd_L1 rows (row : Int)).length := hrk.pos row hrl
  obtain ⟨l, hl1⟩ : ∃ l, l = rd_L1 rows (row : Int) := ⟨_, rfl⟩
  rw [← hl1] at hpos
  have hll : l.length ≤ 1000 := by rw [hl1]; exact lenL_at hlL _
  obtain ⟨last, hlast⟩ : ∃ last, l.length = last + 1 := ⟨l.length - 1, by omega⟩
  have hu : takeU rows row = rd l (last : Int) := by unfold takeU; rw [← hl1, hlast]; rfl
  have ht0 : take0 rows row = if last = 0 then (rows.set row (l.take last)).take row else rows.set row (l.take last) := by unfold take0; rw [← hl1, hlast]; rfl
  have htl := take0_len rows row hrl
  have HRK := Lib.hid hrk; have HC := Lib.hid hc; have H85 := Lib.hid h85; have HL1 := Lib.hid hl1; have HU := Lib.hid hu; have HT0 := Lib.hid ht0; have HLL := Lib.hid hlL; have HTL := Lib.hid htl
  have HLT := Lib.hid hlast
  have hl1000 : last ≤ 1000 := by omega
  have hr1000 : row ≤ 1000 := by omega
  clear hr0 hrk hc h85 hl1 hu ht0 hlL htl hpos
  go_enter Try.func56, Try.ntmps56
  go_upto_if 36 with (go_at_call 85; refine H85.out.mono ?_; rintro e w1 ⟨v1, rfl, hS1, hb1⟩; obtain ⟨go, cap, rfl, hg, hglt, _⟩ := Kd.S_form hS1 (by omega); have HS1 := Lib.hid hS1; have HB1 := Lib.hid hb1; obtain ⟨vk, q1, oki, hRk, hoki, hHk⟩ := S_elem hS1 row hrl; rw [← HL1.out] at hRk; obtain ⟨Ak, ck, rfl, hck, hCk⟩ := Kd.R_reads hRk; obtain ⟨ad, hAk, q2⟩ := Kd.at_int hCk (last : Int) (by omega) (by have := HLT.out; omega); subst hAk; rw [Int.toNat_natCast, ← HU.out] at q2; have hcut := S_elem_cut hS1 hrl hRk hoki hHk (m := last) (by omega); have hcap := (Kd.S_reads' hS1).2.1; obtain ⟨f1, f2, f3⟩ := hcut; have HS2 := Lib.hid f3; have HB2 := Lib.hid (hb1.setCell (p := ⟨go, row, none⟩) f2 (.slice (some ad) last ck)); rw [hlast] at q1 hck; clear hS1 hb1 hRk hoki hHk hCk f3 f2 hg hglt)
  have hrc : row ≤ cap := by omega
  obtain ⟨R0, hR0⟩ : ∃ R0, R0 = take0 rows row := ⟨_, rfl⟩
  have HR0 := Lib.hid hR0
  obtain ⟨u0, hu0⟩ : ∃ u0, u0 = takeU rows row := ⟨_, rfl⟩
  rw [← hu0]
  have HU0 := Lib.hid hu0
  clear hR0 hu0 q2
  generalize (w1.setCell ⟨go, row, none⟩ (.slice (some ad) last ck)) = W2 at *
  go_cut [6] (fun s6 wx => s6 = .slice (some ⟨go, 0, none⟩) R0.length cap ∧ wx = W2 ∧ Hid (Kd.S (Kd.slice 3 (Kd.int .i64)) 32 W2 w.heap.size (fun _ => True) (.slice (some ⟨go, 0, none⟩) R0.length cap) R0))
  case first =>
    by_cases hz : last = 0
    · have h0 : R0 = (rows.set row (l.take last)).take row := by rw [HR0.out, HT0.out, if_pos hz]
      have h1 : R0.length = row := by rw [h0]; simp; omega
      have H0 := Lib.hid h0; have H1 := Lib.hid h1
      obtain rfl : last = 0 := hz
      clear h0 h1
      go_wp2
      go_meet
      refine ⟨by rw [H1.out], rfl, ?_⟩
      rw [H1.out, H0.out]
      exact Kd.S_take HS2.out (by simp; omega)
    · have h0 : R0 = rows.set row (l.take last) := by rw [HR0.out, HT0.out, if_neg hz]
      have h1 : R0.length = rows.length := by rw [h0]; simp
      have hzb : ((last : Int) == 0) = false := beq_eq_false_iff_ne.2 (by omega)
      have H0 := Lib.hid h0; have H1 := Lib.hid h1
      clear h0 h1
      go_wp2
      go_meet
      refine ⟨by rw [H1.out], rfl, ?_⟩
      rw [H1.out, H0.out]
      exact HS2.out
  case rest =>
    obtain ⟨rfl, rfl, HS3⟩ := hcut
    clear HS2
    go_wp2
    have htl := HTL.out
    rw [← HR0.out] at htl
    have HTL2 := Lib.hid htl
    clear htl
    go_loopw [8, 9] (fun u i wr => ∃ (j : Nat), j ≤ row ∧ i = .int .i64 ((row : Int) - 1 - (j : Int)) ∧ u = .int .i64 (takeS R0 u0 row j).2 ∧ Hid (Kd.S (Kd.slice 3 (Kd.int .i64)) 32 wr w.heap.size (fun _ => True) (.slice (some ⟨go, 0, none⟩) R0.length cap) (takeS R0 u0 row j).1) ∧ Hid (Below w.heap.size w wr)) (fun _ i _ => (intOf i + 1).toNat)
    case atStart => exact ⟨0, Nat.zero_le _, by simp, rfl, HS3, HB2⟩
    case round =>
      obtain ⟨j, hj, rfl, rfl, HS, HB⟩ := hrel
      have hlenj := takeS_len R0 u0 row j
      by_cases hlt : j < row
      · obtain ⟨ii, hii⟩ : ∃ ii, ii = row - 1 - j := ⟨_, rfl⟩
        have hz : (row : Int) - 1 - (j : Int) = (ii : Int) := by omega
        rw [hz]
        have hup : upv rows row (ii + 1) = (takeS R0 u0 row j).2 := by unfold upv; rw [← HR0.out, ← HU0.out, show row - (ii + 1) = j by omega]
        have hrw : rd_L1 (takeS R0 u0 row j).1 (ii : Int) = rd_L1 rows (ii : Int) := by rw [HR0.out, HU0.out, takeS_at _ _ _ _ j (by omega) (by omega), take0_at _ _ _ (by omega)]
        have hT1 : takeS R0 u0 row (j + 1) = ((takeS R0 u0 row j).1.set ii ((rd_L1 (takeS R0 u0 row j).1 (ii : Int)).set (geIdx (rd_L1 (takeS R0 u0 row j).1 (ii : Int)) (takeS R0 u0 row j).2 - 1) (takeS R0 u0 row j).2), rd (rd_L1 (takeS R0 u0 row j).1 (ii : Int)) ((geIdx (rd_L1 (takeS R0 u0 row j).1 (ii : Int)) (takeS R0 u0 row j).2 - 1 : Nat) : Int)) := by rw [hii]; rfl
        have hiir : ii < row := by omega
        have hiiR : ii < (takeS R0 u0 row j).1.length := by rw [hlenj]; have := HTL2.out.1; omega
        have hpl := pps_lt HRK.out HC.out (i := ii) (by omega)
        have hpe : pps rows row ii = geIdx (rd_L1 rows (ii : Int)) (upv rows row (ii + 1)) - 1 := by unfold pps; rw [if_pos hiir]
        have hgp := geq HRK.out HC.out hiir
        have hxl : Xx rows ii (pps rows row ii) < upv rows row (ii + 1) := by have := up_lt HRK.out HC.out hiir; rw [up_step (by omega)] at this; exact this
        have hxg : ∀ k, pps rows row ii < k → k < Ln rows ii → upv rows row (ii + 1) ≤ Xx rows ii k := fun k h1 h2 => up_le HRK.out HC.out hiir h1 h2
        rw [hup] at hpe hgp hxl hxg
        have hrlen : (rd_L1 rows (ii : Int)).length ≤ 1000 := lenL_at HLL.out _
        have hR0l : R0.length ≤ 1000 := by have := HTL2.out.2; omega
        have hii1000 : ii ≤ 1000 := by omega
        generalize takeS R0 u0 row j = s at *
        obtain ⟨R, tt⟩ := s
        simp only at hlenj hup hrw hT1 hiiR hpe hgp hxl hxg HS
        rw [hrw, ← hpe] at hT1
        obtain ⟨pp, hpp⟩ : ∃ pp, pp = pps rows row ii := ⟨_, rfl⟩
        rw [← hpp] at hT1 hpl hxl hxg
        obtain ⟨vk, q1, oki, hRk, hoki, hHk⟩ := S_elem HS.out ii hiiR
        rw [hrw] at hRk
        have hxl' : rd (rd_L1 rows (ii : Int)) (pp : Int) < tt := hxl
        have hxg' : ∀ k, pp < k → k < (rd_L1 rows (ii : Int)).length → tt ≤ rd (rd_L1 rows (ii : Int)) (k : Int) := hxg
        have hpl' : pp < (rd_L1 rows (ii : Int)).length := hpl
        generalize rd_L1 rows (ii : Int) = rw_ at *
        obtain ⟨gi, ci, rfl, hgi, _⟩ := Kd.R_form hRk (by omega)
        have hCk := (Kd.R_reads' hRk).2.2
        have hiir0 : ii < R0.length := by omega
        have HT1 := Lib.hid hT1; have HRKK := Lib.hid hRk; have HHK := Lib.hid hHk; have HCK := Lib.hid hCk; have HGI := Lib.hid hgi; have HXG := Lib.hid hxg'; have HXL := Lib.hid hxl'
        have HZ := Lib.hid hz; have HPP := Lib.hid hpp
        clear hT1 hRk hHk hCk hgi hxg' hxl' hxg hxl hpl hpe hgp hup hrw hoki hlenj hii hz hpp
        obtain ⟨rl, hrl2⟩ : ∃ rl, rw_.length = rl + 1 := ⟨rw_.length - 1, by omega⟩
        rw [hrl2] at q1 hrlen hpl'
        have HRL := Lib.hid hrl2
        clear hrl2
        have hrl1000 : rl ≤ 1000 := by omega
        go_wp2
        go_loop [10] (fun k => ∃ k' : Nat, pp ≤ k' ∧ k' ≤ rl ∧ k = .int .i64 k') (fun k => (intOf k).toNat)
        case atStart => exact ⟨rl, by omega, Nat.le_refl _, rfl⟩
        case round =>
          obtain ⟨k', hk1, hk2, rfl⟩ := hrel
          have hkl : k' < rw_.length := by have := HRL.out; omega
          obtain ⟨z1, z2⟩ := Kd.R_celln (0 : Int) HRKK.out (k' : Int) (by omega) (by omega)
          rw [Int.toNat_natCast] at z1 z2
          have z1' : wr.cell? ⟨gi, k', none⟩ = some (.int .i64 (rd rw_ (k' : Int))) := z1
          clear z1
          by_cases hkp : pp < k'
          · have hge := HXG.out k' hkp hkl
            generalize rd rw_ (k' : Int) = y at *
            have hyd : decide (tt ≤ y) = true := decide_eq_true hge
            obtain ⟨k2, rfl⟩ : ∃ k2, k' = k2 + 1 := ⟨k' - 1, by omega⟩
            clear hge hkl
            go_wp2
            go_round
            case rel => exact ⟨k2, by omega, by omega, by go_num⟩
            case measure => simp [intOf]
          · obtain rfl : k' = pp := by omega
            have hS2 := Lib.hid (S_elem_put HS.out HRKK.out HHK.out k' tt)
            obtain ⟨y, hy⟩ : ∃ y, y = rd rw_ (k' : Int) := ⟨_, rfl⟩
            have hyl := HXL.out
            rw [← hy] at z1' hyl
            have HY := Lib.hid hy
            have hyd : decide (tt ≤ y) = false := decide_eq_false (by omega)
            clear hy hyl hkl
            go_wp2
            go_region
            all_goals
              go_wp2
              go_roundw
              case rel =>
                refine ⟨j + 1, by omega, ?_, by rw [HT1.out, ← HY.out], ?_, (HB.out.setCell (p := ⟨gi, k', none⟩) HGI.out _).drew⟩
                · have := HZ.out; congr 1; omega
                · rw [HT1.out]; exact Kd.S_drew hS2.out
              case measure => simp [intOf]; try omega
      · obtain rfl : j = row := by omega
        have hz : (j : Int) - 1 - (j : Int) = -1 := by omega
        rw [hz]
        clear hz
        go_wp2
        go_ret2
        have hfin : takeL rows j = takeS R0 u0 j j := by unfold takeL; rw [← HR0.out, ← HU0.out]
        rw [← hlenj] at HS
        exact ⟨_, by rw [hfin]; rfl, by rw [hfin]; rw [hlenj] at HS; exact HS.out, HB.out⟩
end Go.Proofs.Ytpbemjdaanlaoaa.Pr
namespace Go.Proofs
open Go.Shelf
def Try.lays2_20_ren : Go.Shelf.Ren := ⟨fun | 20 => 49 | n => n, fun | 22 => 32 | 3 => 3 | 4 => 4 | 0 => 0 | n => n, fun | n => n⟩
theorem Try.lays2_20 : Go.Proofs.Lays2.n20 Try.prog Try.lays2_20_ren := {
  mixed := by kernel_rfl
  f20 := Try.func49.trans (congrArg some (by kernel_rfl))
  t0 := Try.underlying0
  a0 := Try.isAgg0
  z0 := Try.sizeOf0
  v0 := Try.zeroValue0
  t3 := Try.underlying3
  a3 := Try.isAgg3
  z3 := Try.sizeOf3
  v3 := Try.zeroValue3
  t4 := Try.underlying4
  a4 := Try.isAgg4
  z4 := Try.sizeOf4
  v4 := Try.zeroValue4
  t22 := Try.underlying32
  a22 := Try.isAgg32
  z22 := Try.sizeOf32
  v22 := Try.zeroValue32
  i3 := by kernel_rfl }
def Try.lays189_ren : Go.Shelf.Ren := ⟨fun | 189 => 48 | 125 => 82 | 257 => 81 | 128 => 101 | 129 => 102 | 294 => 92 | 295 => 93 | 296 => 94 | 297 => 95 | 298 => 96 | 299 => 97 | 216 => 98 | 300 => 99 | 301 => 100 | 328 => 103 | 329 => 104 | 330 => 105 | 331 => 106 | 332 => 107 | 215 => 108 | 343 => 109 | n => n, fun | 28 => 32 | 3 => 3 | 46 => 97 | 0 => 0 | 51 => 110 | 53 => 112 | 4 => 4 | 183 => 103 | 182 => 102 | 131 => 94 | 5 => 5 | 9 => 9 | 218 => 113 | 222 => 117 | 228 => 119 | 229 => 65 | n => n, fun | n => n⟩
theorem Try.lays189 : Go.Proofs.Lays.n189 Try.prog Try.lays189_ren := {
  mixed := by kernel_rfl
  f125 := Try.func82.trans (congrArg some (by kernel_rfl))
  f128 := Try.func101.trans (congrArg some (by kernel_rfl))
  f129 := Try.func102.trans (congrArg some (by kernel_rfl))
  f189 := Try.func48.trans (congrArg some (by kernel_rfl))
  f215 := Try.func108.trans (congrArg some (by kernel_rfl))
  f216 := Try.func98.trans (congrArg some (by kernel_rfl))
  f257 := Try.func81.trans (congrArg some (by kernel_rfl))
  f294 := Try.func92.trans (congrArg some (by kernel_rfl))
  f295 := Try.func93.trans (congrArg some (by kernel_rfl))
  f296 := Try.func94.trans (congrArg some (by kernel_rfl))
  f297 := Try.func95.trans (congrArg some (by kernel_rfl))
  f298 := Try.func96.trans (congrArg some (by kernel_rfl))
  f299 := Try.func97.trans (congrArg some (by kernel_rfl))
  f300 := Try.func99.trans (congrArg some (by kernel_rfl))
  f301 := Try.func100.trans (congrArg some (by kernel_rfl))
  f328 := Try.func103.trans (congrArg some (by kernel_rfl))
  f329 := Try.func104.trans (congrArg some (by kernel_rfl))
  f330 := Try.func105.trans (congrArg some (by kernel_rfl))
  f331 := Try.func106.trans (congrArg some (by kernel_rfl))
  f332 := Try.func107.trans (congrArg some (by kernel_rfl))
  f343 := Try.func109.trans (congrArg some (by kernel_rfl))
  t0 := Try.underlying0
  a0 := Try.isAgg0
  z0 := Try.sizeOf0
  v0 := Try.zeroValue0
  t3 := Try.underlying3
  a3 := Try.isAgg3
  z3 := Try.sizeOf3
  v3 := Try.zeroValue3
  t4 := Try.underlying4
  a4 := Try.isAgg4
  z4 := Try.sizeOf4
  v4 := Try.zeroValue4
  t5 := Try.underlying5
  a5 := Try.isAgg5
  z5 := Try.sizeOf5
  v5 := Try.zeroValue5
  t9 := Try.underlying9
  a9 := Try.isAgg9
  z9 := Try.sizeOf9
  v9 := Try.zeroValue9
  t28 := Try.underlying32
  a28 := Try.isAgg32
  z28 := Try.sizeOf32
  v28 := Try.zeroValue32
  t46 := Try.underlying97
  a46 := Try.isAgg97
  z46 := Try.sizeOf97
  v46 := Try.zeroValue97
  t51 := Try.underlying110
  a51 := Try.isAgg110
  z51 := Try.sizeOf110
  v51 := Try.zeroValue110
  t53 := Try.underlying112
  a53 := Try.isAgg112
  z53 := Try.sizeOf112
  v53 := Try.zeroValue112
  t131 := Try.underlying94
  a131 := Try.isAgg94
  z131 := Try.sizeOf94
  v131 := Try.zeroValue94
  t182 := Try.underlying102
  a182 := Try.isAgg102
  z182 := Try.sizeOf102
  v182 := Try.zeroValue102
  t183 := Try.underlying103
  a183 := Try.isAgg103
  z183 := Try.sizeOf103
  v183 := Try.zeroValue103
  t218 := Try.underlying113
  a218 := Try.isAgg113
  z218 := Try.sizeOf113
  v218 := Try.zeroValue113
  t222 := Try.underlying117
  a222 := Try.isAgg117
  z222 := Try.sizeOf117
  v222 := Try.zeroValue117
  t228 := Try.underlying119
  a228 := Try.isAgg119
  z228 := Try.sizeOf119
  v228 := Try.zeroValue119
  t229 := Try.underlying65
  a229 := Try.isAgg65
  z229 := Try.sizeOf65
  v229 := Try.zeroValue65 }
end Go.Proofs
set_option linter.unusedVariables false
set_option linter.unusedSimpArgs false
namespace Go.Proofs.Ytpbemjdaanlaoaa.Pr
open Go.RowKit Go.Proofs.YtpbemjdaanlaoaaW.PrintWords Go.Proofs.YtpbemjdaanlaoaaW.PrintLast Go.Proofs.YtpbemjdaanlaoaaW.PrintMore
open Go.Sort Go.Lib
set_option maxRecDepth 100000

theorem holds_of_R {w : World} {base : Nat} {ok : Nat → Prop} {g c : Nat} {zs : List Int} (h : Kd.R (Kd.int .i64) 3 w base ok (.slice (some ⟨g, 0, none⟩) zs.length c) zs) : Holds (Value.int .i64) w g 0 zs.toArray := by
  intro j hj
  have hj' : j < zs.length := by simpa using hj
  obtain ⟨z1, z2⟩ := Kd.R_celln (0 : Int) h (j : Int) (by omega) (by omega)
  rw [Int.toNat_natCast] at z1 z2
  rw [Nat.zero_add]
  refine ⟨?_, z2⟩
  rw [z1]
  have e : rdOf (0 : Int) zs (j : Int) = rd zs (j : Int) := rfl
  rw [e, rd_get zs j hj']
  simp [getElem!_pos, hj']
theorem below_sorted {w : World} {base g n : Nat} {os : Array Obj} (d : Array Int) (hb : base ≤ w.heap.size) (hg : base ≤ g) : Below base w (grow (putRow (Value.int .i64) (Sort.ahead w n) g 0 d) os) :=
  (Below.refl base w).grown (grownBy_sortedI d) hb (fun k e => by cases e; exact hg)
/-- What Sort leaves. -/
def Sorted48 (w : World) (base : Nat) (A : Option Addr) (zs : List Int) : Prop := zs = [] ∨ ∃ g, A = some ⟨g, 0, none⟩ ∧ base ≤ g ∧ g < w.heap.size ∧ Holds (Value.int .i64) w g 0 (zs.mergeSort fun x y => decide (x ≤ y)).toArray
theorem sort48 (A : Option Addr) (c : Nat) (zs : List Int) (base : Nat) (ok : Nat → Prop) (w : World) (hb : base ≤ w.heap.size) (hl : zs.length ≤ 1000) (h : Kd.R (Kd.int .i64) 3 w base ok (.slice A zs.length c) zs) :
    Calls Try.prog 48 #[.slice A zs.length c] w fun e w' => e = .returned (.tuple #[]) ∧ Below base w w' ∧ Sorted48 w' base A zs := by
  rcases Nat.eq_zero_or_pos zs.length with h0 | h0
  · obtain rfl := List.length_eq_zero_iff.1 h0
    exact (Any.slices_Sort_int_none Try.lays189 A c w).mono fun e w' ⟨h1, h2⟩ => ⟨h1, by rw [h2]; exact Below.refl _ _, .inl rfl⟩
  · obtain ⟨g, cap, e, hg, hlt, _⟩ := Kd.R_form h h0
    injection e with e1 _ e2
    subst e1 e2
    have hH := holds_of_R h
    refine (Any.slices_Sort_int Try.lays189 g 0 c zs w hH hlt (by omega)).mono ?_
    rintro e w' ⟨h1, n, os, rfl⟩
    refine ⟨h1, below_sorted _ hb hg, .inr ⟨g, rfl, hg, by have := (below_sorted (n := n) (os := os) (zs.mergeSort fun x y => decide (x ≤ y)).toArray hb hg).size; have h2 := (grownBy_sortedI (w := w) (g := g) (n := n) (os := os) (zs.mergeSort fun x y => decide (x ≤ y)).toArray).size; omega, ?_⟩⟩
    have h3 : Holds (Value.int .i64) (Sort.ahead w n) g 0 zs.toArray := holds_ahead _ w n g 0 _ hH
    have h4 := holds_putRow (Value.int .i64) (Sort.ahead w n) g 0 zs.toArray (zs.mergeSort fun x y => decide (x ≤ y)).toArray h3 (by simp)
    exact holds_grow _ _ os g 0 _ (by rw [size_putRow]; exact hlt) h4
theorem compact49 (A : Option Addr) (c : Nat) (zs : List Int) (base : Nat) (w : World) (hb : base ≤ w.heap.size) (hl : zs.length ≤ 1000) (hc : zs.length ≤ c) (h : Sorted48 w base A zs) :
    Calls Try.prog 49 #[.slice A zs.length c] w fun e w' => (∃ A', e = .returned (.slice A' (compact (zs.mergeSort fun x y => decide (x ≤ y))).length c)) ∧ Below base w w' := by
  rcases h with rfl | ⟨g, rfl, hg, hlt, hH⟩
  · exact (Any.slices_Compact_int_empty Try.lays2_20 A c w).mono fun e w' ⟨h1, h2⟩ => ⟨⟨A, by rw [h1]; simp [compact, compactUpTo]⟩, by rw [h2]; exact Below.refl _ _⟩
  · have hl2 : (zs.mergeSort fun x y => decide (x ≤ y)).length = zs.length := List.length_mergeSort _
    rw [← hl2] at hl hc ⊢
    refine (Any.slices_Compact_int Try.lays2_20 g 0 c _ w hH (by omega) hc).mono ?_
    rintro e w' ⟨h1, q, h2⟩
    refine ⟨⟨_, h1⟩, ?_⟩
    have := below_sorted (w := w) (n := q) (os := #[]) (g := g) (compact (zs.mergeSort fun x y => decide (x ≤ y)) ++ List.replicate ((zs.mergeSort fun x y => decide (x ≤ y)).length - (compact (zs.mergeSort fun x y => decide (x ≤ y))).length) 0).toArray hb hg
    rw [grow_empty] at this
    rw [h2]; exact this
end Go.Proofs.Ytpbemjdaanlaoaa.Pr
set_option linter.unusedVariables false
set_option linter.unusedSimpArgs false
namespace Go.Proofs.Ytpbemjdaanlaoaa.Pr
open Go.RowKit Go.Proofs.YtpbemjdaanlaoaaW.PrintWords Go.Proofs.YtpbemjdaanlaoaaW.PrintLast Go.Proofs.YtpbemjdaanlaoaaW.PrintMore
open Go.Maps
set_option maxRecDepth 100000

/-- How many different numbers a list has, as the program counts them. -/
def kindsOf (l : List Int) : Nat := (Lib.compact (l.mergeSort fun x y => decide (x ≤ y))).length
def orC (rows : List (List Int)) : Int := if 12 < rows.flatten.length then 6 else if within_ 1 (rows.flatten.length : Int) rows.flatten = false then 3 else if kindsOf rows.flatten < rows.flatten.length then 11 else if risesB rows 1 = false then 22 else 0
def rack_CheckOrder.f (l0 : List (List Int)) : Option (Int) := if l0.length ≤ 1000 ∧ l0.flatten.length ≤ 1000 then some (orC l0) else none

set_option maxHeartbeats 4000000 in
theorem rack_CheckOrder.calls (A0 : Option Addr) (c0 : Nat) (l0 : List (List Int)) (r : Int) (w : World) (hr0 : Kd.C (Kd.slice 3 (Kd.int .i64)) w A0 l0.length l0) (hc0 : l0.length ≤ c0) (h : rack_CheckOrder.f l0 = some r) :
    Calls Try.prog 12 #[.slice A0 l0.length c0] w fun e w' => e = .returned (.int .i64 r) ∧ Below w.heap.size w w' := by
  unfold rack_CheckOrder.f at h
  have hb : l0.length ≤ 1000 ∧ l0.flatten.length ≤ 1000 := by
    by_cases hb : l0.length ≤ 1000 ∧ l0.flatten.length ≤ 1000
    · exact hb
    · rw [if_neg hb] at h; cases h
  rw [if_pos hb] at h
  injection h with h
  obtain ⟨hb1, hb2⟩ := hb
  obtain ⟨fl, hfl⟩ : ∃ fl, fl = l0.flatten := ⟨_, rfl⟩
  have hcat : ∀ w1, Below w.heap.size w w1 → Calls Try.prog 41 #[.slice A0 l0.length c0] w1 fun e w' => ∃ v0_ : Value, e = .returned (v0_) ∧ Kd.R (Kd.int .i64) 3 w' w1.heap.size (fun _ => True) v0_ fl ∧ Below w1.heap.size w1 w' := fun w1 hB =>
    slices_Concat_int_int.calls A0 c0 l0 fl w1 (Kd.C_below hr0 hB) hc0 (by unfold slices_Concat_int_int.f; rw [if_pos hb2, hfl])
  have hll : fl.length ≤ 1000 := by rw [hfl]; exact hb2
  have hw42 : ∀ (A : Option Addr) (c : Nat) (w1 : World), Kd.C (Kd.int .i64) w1 A fl.length fl → Calls Try.prog 42 #[.int .i64 1, .int .i64 (fl.length : Int), .slice A fl.length c] w1 fun e w' => e = .returned (.bool (within_ 1 (fl.length : Int) fl)) ∧ Below w1.heap.size w1 w' := fun A c w1 hC => within42 1 (fl.length : Int) A c fl w1 hC
  have h43 : within_ 1 (fl.length : Int) fl = true → ∀ w1, Below w.heap.size w w1 → Calls Try.prog 43 #[.slice A0 l0.length c0] w1 fun e w' => ∃ g bm n D v, e = .returned (.pointer (some ⟨g, 0, none⟩)) ∧ StandAt w' w1.heap.size g bm n D v l0 ∧ HasP D (plF l0 l0.length 0) ∧ n ≤ 1000 ∧ Below w1.heap.size w1 w' := fun hw w1 hB =>
    newStand43 A0 c0 l0 w1 hb2 hb1 (fun x hx => wfi_of (by have := within_true hw x (by rw [hfl]; exact hx); omega)) (Kd.C_below hr0 hB)
  have h44 : within_ 1 (fl.length : Int) fl = true → ∀ base g bm n D v w1, StandAt w1 base g bm n D v l0 → HasP D (plF l0 l0.length 0) → Calls Try.prog 44 #[.pointer (some ⟨g, 0, none⟩), .int .i64 1] w1 fun e w' => e = .returned (.bool (risesB l0 1)) ∧ Below w1.heap.size w1 w' := fun hw base g bm n D v w1 hS hP =>
    rises44 base g bm n D v l0 1 w1 hS hP hb1 hb2 (by omega) (fun row hrow x hx => by have := within_true hw x (by rw [hfl]; exact List.mem_flatten.2 ⟨row, hrow, hx⟩); omega)
  unfold orC at h
  rw [← hfl] at h
  have H := Lib.hid h; have HCAT := Lib.hid hcat; have HW := Lib.hid hw42; have H43 := Lib.hid h43; have H44 := Lib.hid h44
  clear h hcat hw42 h43 h44 hfl hb2 hr0
  by_cases t1 : 12 < fl.length
  · go_enter Try.func12, Try.ntmps12
    go_wp2_with (go_at_call 41; refine (HCAT.out _ (Below.refl _ _)).mono ?_; rintro e w1 ⟨v1, rfl, hR1, hb1⟩; obtain ⟨A1, c1, rfl⟩ := Kd.R_slice hR1)
    go_ret
    exact ⟨by rw [← H.out, if_pos t1]; rfl, hb1⟩
  · generalize hq : within_ 1 (fl.length : Int) fl = q at *
    cases q
    · go_enter Try.func12, Try.ntmps12
      go_wp2_with (first
        | (go_at_call 41; refine (HCAT.out _ (Below.refl _ _)).mono ?_; rintro e w1 ⟨v1, rfl, hR1, hb1⟩; obtain ⟨A1, c1, rfl, hc1, hC1⟩ := Kd.R_reads hR1)
        | (go_at_call 42; refine (HW.out A1 c1 _ hC1).mono ?_; rintro e w2 ⟨rfl, hb2⟩))
      go_ret
      exact ⟨by rw [← H.out, if_neg t1]; rfl, hb1.trans (hb2.mono hb1.size)⟩
    · have h43 := H43.out rfl
      have h44 := H44.out rfl
      have H43' := Lib.hid h43; have H44' := Lib.hid h44
      clear h43 h44
      have hkk : kindsOf fl = (Lib.compact (fl.mergeSort fun x y => decide (x ≤ y))).length := rfl
      by_cases t2 : kindsOf fl < fl.length
      · generalize hkz : kindsOf fl = kz at *
        have HKK := Lib.hid hkk
        clear hkk
        have t2' : decide ((kz : Int) < (fl.length : Int)) = true := decide_eq_true (by omega)
        go_enter Try.func12, Try.ntmps12
        go_wp2_with (first
          | (go_at_call 42; refine (HW.out A1 c1 _ hC1).mono ?_; rintro e w2 ⟨rfl, hb2⟩; have HR2 := Lib.hid (Kd.R_below hR1 hb2); have HB2 := Lib.hid (hb1.trans (hb2.mono hb1.size)); clear hR1 hC1 hb1 hb2)
          | (go_at_call 48; refine (sort48 A1 c1 fl w.heap.size _ _ HB2.out.size hll HR2.out).mono ?_; rintro e w3 ⟨rfl, hb3, hs3⟩; have HB3 := Lib.hid (HB2.out.trans hb3); have HS3 := Lib.hid hs3; clear hb3 hs3)
          | (go_at_call 49; refine (compact49 A1 c1 fl w.heap.size _ HB3.out.size hll hc1 HS3.out).mono ?_; rintro e w4 ⟨⟨A4, rfl⟩, hb4⟩; rw [← HKK.out]; have HB4 := Lib.hid (HB3.out.trans hb4); clear hb4)
          | (go_at_call 41; refine (HCAT.out _ HB4.out).mono ?_; rintro e w5 ⟨v5, rfl, hR5, hb5⟩; obtain ⟨A5, c5, rfl⟩ := Kd.R_slice hR5; have HB5 := Lib.hid (HB4.out.trans (hb5.mono HB4.out.size)); clear hR5 hb5)
          | (go_at_call 41; refine (HCAT.out _ (Below.refl _ _)).mono ?_; rintro e w1 ⟨v1, rfl, hR1, hb1⟩; obtain ⟨A1, c1, rfl, hc1, hC1⟩ := Kd.R_reads hR1))
        go_ret
        exact ⟨by rw [← H.out, if_neg t1, if_neg (by decide), if_pos t2]; rfl, HB5.out⟩
      · generalize hkz : kindsOf fl = kz at *
        have HKK := Lib.hid hkk
        clear hkk
        have t2' : decide ((kz : Int) < (fl.length : Int)) = false := decide_eq_false (by omega)
        have t3' : ¬ kz < fl.length := t2
        generalize risesB l0 1 = p at *
        cases p
        all_goals
          go_enter Try.func12, Try.ntmps12
          go_wp2_with (first
            | (go_at_call 42; refine (HW.out A1 c1 _ hC1).mono ?_; rintro e w2 ⟨rfl, hb2⟩; have HR2 := Lib.hid (Kd.R_below hR1 hb2); have HB2 := Lib.hid (hb1.trans (hb2.mono hb1.size)); clear hR1 hC1 hb1 hb2)
            | (go_at_call 48; refine (sort48 A1 c1 fl w.heap.size _ _ HB2.out.size hll HR2.out).mono ?_; rintro e w3 ⟨rfl, hb3, hs3⟩; have HB3 := Lib.hid (HB2.out.trans hb3); have HS3 := Lib.hid hs3; clear hb3 hs3)
            | (go_at_call 49; refine (compact49 A1 c1 fl w.heap.size _ HB3.out.size hll hc1 HS3.out).mono ?_; rintro e w4 ⟨⟨A4, rfl⟩, hb4⟩; rw [← HKK.out]; have HB4 := Lib.hid (HB3.out.trans hb4); clear hb4)
            | (go_at_call 41; refine (HCAT.out _ HB4.out).mono ?_; rintro e w5 ⟨v5, rfl, hR5, hb5⟩; obtain ⟨A5, c5, rfl⟩ := Kd.R_slice hR5; have HB5 := Lib.hid (HB4.out.trans (hb5.mono HB4.out.size)); clear hR5 hb5)
            | (go_at_call 43; refine (H43'.out _ HB5.out).mono ?_; rintro e w6 ⟨g, bm, n, D, v, rfl, hS, hP, _, hb6⟩; have HB6 := Lib.hid (HB5.out.trans (hb6.mono HB5.out.size)); clear hb6)
            | (go_at_call 44; refine (H44'.out _ g bm n D v _ hS hP).mono ?_; rintro e w7 ⟨rfl, hb7⟩; have HB7 := Lib.hid (HB6.out.trans (hb7.mono HB6.out.size)); clear hb7)
            | (go_at_call 41; refine (HCAT.out _ (Below.refl _ _)).mono ?_; rintro e w1 ⟨v1, rfl, hR1, hb1⟩; obtain ⟨A1, c1, rfl, hc1, hC1⟩ := Kd.R_reads hR1))
          go_ret
          exact ⟨by rw [← H.out, if_neg t1, if_neg (by decide), if_neg t2]; rfl, HB7.out⟩
end Go.Proofs.Ytpbemjdaanlaoaa.Pr
set_option linter.unusedVariables false
set_option linter.unusedSimpArgs false
namespace Go.Proofs.Ytpbemjdaanlaoaa.Pr
open Go.RowKit Go.Proofs.YtpbemjdaanlaoaaW.PrintWords Go.Proofs.YtpbemjdaanlaoaaW.PrintLast Go.Proofs.YtpbemjdaanlaoaaW.PrintMore
set_option maxRecDepth 100000

/-! Numbers that are counted once: what Sort and Compact tell. -/
theorem nodup_adj {s : List Int} (hs : s.Pairwise (fun a b => a ≤ b)) : s.Nodup ↔ ∀ j, (hj : j + 1 < s.length) → s[j] ≠ s[j + 1] := by
  rw [List.Nodup, List.pairwise_iff_getElem]
  rw [List.pairwise_iff_getElem] at hs
  constructor
  · intro h j hj
    exact h j (j + 1) (by omega) hj (by omega)
  · intro h i j hi hj hij
    obtain ⟨k, rfl⟩ : ∃ k, j = k + 1 := ⟨j - 1, by omega⟩
    have h1 := h k hj
    have h2 := hs k (k + 1) (by omega) hj (by omega)
    have h3 : s[i] ≤ s[k] := by
      rcases Nat.lt_or_ge i k with h4 | h4
      · exact hs i k (by omega) (by omega) h4
      · have e : i = k := by omega
        subst e; exact Int.le_refl _
    omega
theorem kinds_iff (l : List Int) : kindsOf l < l.length ↔ ¬ l.Nodup := by
  have hp : (l.mergeSort fun x y => decide (x ≤ y)).Perm l := List.mergeSort_perm l _
  have hs : (l.mergeSort fun x y => decide (x ≤ y)).Pairwise (fun a b => a ≤ b) := by
    have := List.pairwise_mergeSort (le := fun x y : Int => decide (x ≤ y)) (fun a b c h1 h2 => by simp at *; omega) (fun a b => by simp; omega) l
    exact this.imp (fun h => by simpa using h)
  rw [← hp.nodup_iff, nodup_adj hs, ← hp.length_eq]
  unfold kindsOf
  generalize (l.mergeSort fun x y => decide (x ≤ y)) = s at *
  have e : (Lib.compact s).length = ((List.range s.length).filter (Lib.keeps s.toArray)).length := by
    unfold Lib.compact Lib.compactUpTo
    rw [List.length_map]
  have e2 : s.length = (List.range s.length).length := by simp
  rw [e]
  conv => lhs; rhs; rw [e2]
  rw [List.length_filter_lt_length_iff_exists]
  have hk : ∀ j, (hj : j + 1 < s.length) → (Lib.keeps s.toArray (j + 1) = true ↔ s[j] ≠ s[j + 1]) := by
    intro j hj
    have a1 : (s.toArray)[j + 1]! = s[j + 1] := by rw [getElem!_pos _ _ (by simpa using hj)]; simp
    have a2 : (s.toArray)[j + 1 - 1]! = s[j] := by rw [getElem!_pos _ _ (by simp; omega)]; simp
    unfold Lib.keeps
    rw [decide_eq_true_iff, a1, a2]
    constructor
    · rintro (h | h)
      · omega
      · exact fun e => h e.symm
    · exact fun h => .inr (fun e => h e.symm)
  constructor
  · rintro ⟨x, hx, hxk⟩ hall
    have hx := List.mem_range.1 hx
    rcases Nat.eq_zero_or_pos x with h0 | h0
    · subst h0
      exact hxk (by simp [Lib.keeps])
    · obtain ⟨j, rfl⟩ : ∃ j, x = j + 1 := ⟨x - 1, by omega⟩
      exact hxk ((hk j hx).2 (hall j hx))
  · intro hnot
    apply Classical.byContradiction
    intro hno
    apply hnot
    intro j hj e
    apply hno
    refine ⟨j + 1, List.mem_range.2 hj, fun hkk => ?_⟩
    exact (hk j hj).1 hkk e
theorem nodup_len : ∀ (l S : List Int), l.Nodup → (∀ x ∈ l, x ∈ S) → l.length ≤ S.length
  | [], _, _, _ => Nat.zero_le _
  | a :: l, S, hn, h => by
    rw [List.nodup_cons] at hn
    have ha := h a (by simp)
    have := nodup_len l (S.erase a) hn.2 (fun x hx => (List.mem_erase_of_ne (fun e => hn.1 (by rw [← e]; exact hx))).2 (h x (by simp [hx])))
    rw [List.length_erase_of_mem ha] at this
    have hp := List.length_pos_of_mem ha
    simp only [List.length_cons]; omega

/-! An order: where a number stands. -/
structure Od (O : List (List Int)) : Prop where
  ris : risesB O 1 = true
  nd : O.flatten.Nodup
  rng : ∀ x ∈ O.flatten, 1 ≤ x ∧ x ≤ (O.flatten.length : Int)
  le : O.flatten.length ≤ 12
theorem Od.of {O : List (List Int)} (h : orC O = 0) : Od O := by
  unfold orC at h
  split at h
  · cases h
  · rename_i h1
    split at h
    · cases h
    · rename_i h2
      split at h
      · cases h
      · rename_i h3
        split at h
        · cases h
        · rename_i h4
          refine ⟨by simpa using h4, ?_, ?_, by omega⟩
          · apply Classical.byContradiction
            intro hn
            exact h3 ((kinds_iff _).2 hn)
          · exact fun x hx => within_true (by simpa using h2) x hx
theorem Xx_mem {O : List (List Int)} {i p : Nat} (hp : p < Ln O i) : i < O.length ∧ Xx O i p ∈ rd_L1 O (i : Int) ∧ Xx O i p ∈ O.flatten := by
  have hi : i < O.length := by
    rcases Nat.lt_or_ge i O.length with h | h
    · exact h
    · rw [Ln_out h] at hp; omega
  have h1 : Xx O i p ∈ rd_L1 O (i : Int) := by
    unfold Xx
    rw [rd_get _ p hp]; exact List.getElem_mem _
  refine ⟨hi, h1, List.mem_flatten.2 ⟨_, ?_, h1⟩⟩
  rw [rdL_get O i hi]; exact List.getElem_mem _
theorem Od.has {O : List (List Int)} (h : Od O) {m : Int} (h1 : 1 ≤ m) (h2 : m ≤ O.flatten.length) : ∃ r p, p < Ln O r ∧ Xx O r p = m := by
  have hm : m ∈ O.flatten := by
    apply Classical.byContradiction
    intro hn
    have := nodup_len (m :: O.flatten) ((List.range O.flatten.length).map (fun k : Nat => (k : Int) + 1)) (List.nodup_cons.2 ⟨hn, h.nd⟩) (fun x hx => by
      have hx2 : 1 ≤ x ∧ x ≤ (O.flatten.length : Int) := by
        rcases List.mem_cons.1 hx with e | e
        · subst e; exact ⟨h1, h2⟩
        · exact h.rng x e
      exact List.mem_map.2 ⟨(x - 1).toNat, List.mem_range.2 (by omega), by omega⟩)
    simp only [List.length_cons, List.length_map, List.length_range] at this
    omega
  obtain ⟨l, hl, hml⟩ := List.mem_flatten.1 hm
  obtain ⟨r, hr, rfl⟩ := List.mem_iff_getElem.1 hl
  obtain ⟨p, hp, e⟩ := List.mem_iff_getElem.1 hml
  refine ⟨r, p, ?_, ?_⟩
  · unfold Ln; rw [rdL_get O r hr]; exact hp
  · unfold Xx; rw [rdL_get O r hr, rd_get _ p hp]; exact e
theorem Od.uniq {O : List (List Int)} (h : Od O) {i p j q : Nat} (hp : p < Ln O i) (hq : q < Ln O j) (e : Xx O i p = Xx O j q) : i = j ∧ p = q := by
  obtain ⟨hi, hi2, _⟩ := Xx_mem hp
  obtain ⟨hj, hj2, _⟩ := Xx_mem hq
  have hn := h.nd
  rw [List.Nodup, List.pairwise_flatten] at hn
  obtain ⟨n1, n2⟩ := hn
  have hij : i = j := by
    rw [List.pairwise_iff_getElem] at n2
    rcases Nat.lt_trichotomy i j with hlt | hlt | hlt
    · exfalso
      have := n2 i j hi hj hlt (Xx O i p) (by rw [← rdL_get O i hi]; exact hi2) (Xx O j q) (by rw [← rdL_get O j hj]; exact hj2)
      exact this e
    · exact hlt
    · exfalso
      have := n2 j i hj hi hlt (Xx O j q) (by rw [← rdL_get O j hj]; exact hj2) (Xx O i p) (by rw [← rdL_get O i hi]; exact hi2)
      exact this e.symm
  subst hij
  refine ⟨rfl, ?_⟩
  have := n1 O[i] (List.getElem_mem _)
  rw [← rdL_get O i hi, List.pairwise_iff_getElem] at this
  have e2 : (rd_L1 O (i : Int))[p]'hp = (rd_L1 O (i : Int))[q]'hq := by
    unfold Xx at e
    rw [rd_get _ p hp, rd_get _ q hq] at e; exact e
  rcases Nat.lt_trichotomy p q with hlt | hlt | hlt
  · exact absurd e2 (this p q hp hq hlt)
  · exact hlt
  · exact absurd e2.symm (this q p hq hp hlt)
theorem Od.row {O : List (List Int)} (h : Od O) {i p : Nat} (hp : p + 1 < Ln O i) : Xx O i p < Xx O i (p + 1) := by
  have := (((rises_iff O 1).1 h.ris).2 i (p + 1) (Xx_mem hp).1 hp).1 (by omega)
  simp only [Nat.add_sub_cancel] at this
  omega
theorem Od.col {O : List (List Int)} (h : Od O) {i p : Nat} (hp : p < Ln O (i + 1)) : Xx O i p < Xx O (i + 1) p ∧ p < Ln O i := by
  have hi := (Xx_mem hp).1
  have h1 := (((rises_iff O 1).1 h.ris).2 (i + 1) p hi hp).2 (by omega)
  have h2 := (((rises_iff O 1).1 h.ris).1 (i + 1) hi).2 (by omega)
  simp only [Nat.add_sub_cancel] at h1 h2
  exact ⟨h1, by omega⟩
/-- The rack that has the places of the order's numbers up to m. -/
structure Upto (O : List (List Int)) (m : Int) (R : List (List Int)) : Prop where
  rk : Rk R
  at_ : ∀ i p, p < Ln R i ↔ (p < Ln O i ∧ Xx O i p ≤ m)
theorem Upto.len {O R : List (List Int)} {m : Int} (h : Upto O m R) (i : Nat) : i < R.length ↔ 0 < Ln R i := by
  constructor
  · exact h.rk.pos i
  · intro hp
    exact (Xx_mem hp).1
theorem Upto.corner {O R : List (List Int)} {m : Int} (hO : Od O) (h : Upto O m R) {r p : Nat} (hp : p < Ln O r) (e : Xx O r p = m) : Corner R r ∧ Ln R r = p + 1 := by
  have h1 : p < Ln R r := (h.at_ r p).2 ⟨hp, by omega⟩
  have h2 : ¬ p + 1 < Ln R r := by
    intro hh
    obtain ⟨a, b⟩ := (h.at_ r (p + 1)).1 hh
    have := hO.row a
    omega
  have h3 : ¬ p < Ln R (r + 1) := by
    intro hh
    obtain ⟨a, b⟩ := (h.at_ (r + 1) p).1 hh
    have := (hO.col a).1
    omega
  exact ⟨⟨(h.len r).2 (by omega), fun _ => by omega⟩, by omega⟩
theorem Upto.step {O R : List (List Int)} {m : Int} (hO : Od O) (h : Upto O m R) {r p : Nat} (hp : p < Ln O r) (e : Xx O r p = m) : Upto O (m - 1) (takeL R r).1 := by
  obtain ⟨hc, hl⟩ := h.corner hO hp e
  refine ⟨takeL_rk h.rk hc, fun i q => ?_⟩
  rw [Ln_takeL h.rk hc]
  by_cases hi : i = r
  · subst hi
    rw [if_pos rfl]
    have h1 := h.at_ i q
    constructor
    · intro hq
      obtain ⟨a, b⟩ := h1.1 (by omega)
      refine ⟨a, ?_⟩
      have : Xx O i q ≠ m := fun e2 => by
        have := (hO.uniq a hp (e2.trans e.symm)).2
        omega
      omega
    · rintro ⟨a, b⟩
      have h2 := h1.2 ⟨a, by omega⟩
      have : q ≠ p := fun e2 => by subst e2; omega
      omega
  · rw [if_neg hi, h.at_ i q]
    constructor
    · rintro ⟨a, b⟩
      refine ⟨a, ?_⟩
      have : Xx O i q ≠ m := fun e2 => hi (hO.uniq a hp (e2.trans e.symm)).1
      omega
    · rintro ⟨a, b⟩
      exact ⟨a, by omega⟩
/-- The row of a number. -/
def rowI (O : List (List Int)) (m : Int) : Int := idxI (fun l => l.any (fun n => n == m)) O
theorem row_of {O : List (List Int)} (hO : Od O) {m : Int} (h1 : 1 ≤ m) (h2 : m ≤ O.flatten.length) : ∃ r p : Nat, r < O.length ∧ p < Ln O r ∧ Xx O r p = m ∧ rowI O m = (r : Int) ∧ (rd_L1 O (r : Int)).any (fun n => n == m) = true ∧ ∀ i : Nat, i < r → (rd_L1 O (i : Int)).any (fun n => n == m) = false := by
  obtain ⟨r, p, hp, e⟩ := hO.has h1 h2
  obtain ⟨hr, hm, _⟩ := Xx_mem hp
  have hat : (rd_L1 O (r : Int)).any (fun n => n == m) = true := by
    rw [List.any_eq_true]
    exact ⟨Xx O r p, hm, by simp [e]⟩
  have hno : ∀ i : Nat, i < r → (rd_L1 O (i : Int)).any (fun n => n == m) = false := by
    intro i hi
    rw [List.any_eq_false]
    intro x hx hxm
    have hxm : x = m := by simpa using hxm
    obtain ⟨q, hq, e2⟩ := List.mem_iff_getElem.1 hx
    have e3 : Xx O i q = m := by unfold Xx; rw [rd_get _ q hq, e2, hxm]
    have := (hO.uniq hq hp (e3.trans e.symm)).1
    omega
  refine ⟨r, p, hr, hp, e, ?_, hat, hno⟩
  unfold rowI
  exact idxI_at _ O r hr (by rw [← rdL_get O r hr]; exact hat) (fun j hj => by rw [← rdL_get O j (by omega)]; exact hno j hj)
/-- The rack and what has been read when j tapers are out. -/
def rdS (O R : List (List Int)) (N : Nat) : Nat → List (List Int) × List Int
  | 0 => (R, List.replicate N 0)
  | j + 1 => ((takeL (rdS O R N j).1 (rowI O ((N : Int) - j)).toNat).1, (rdS O R N j).2.set (N - j - 1) (takeL (rdS O R N j).1 (rowI O ((N : Int) - j)).toNat).2)
theorem rdS_len (O R : List (List Int)) (N : Nat) : ∀ j, (rdS O R N j).2.length = N
  | 0 => by simp [rdS]
  | j + 1 => by simp [rdS, rdS_len O R N j]
theorem takeL_ok {rows : List (List Int)} {row : Nat} (h : okR rows) (hr : row < rows.length) : okR (takeL rows row).1 ∧ (takeL rows row).1.length ≤ rows.length ∧ wfi (takeL rows row).2 := by
  have h1 := take0_len rows row hr
  have hu : wfi (takeU rows row) := rd_wfi (okR_at h hr).2 _
  obtain ⟨a, b⟩ := takeS_ok (take0_ok h row hr) hu h1.1 row (Nat.le_refl _)
  refine ⟨a, ?_, b⟩
  unfold takeL
  rw [takeS_len]; exact h1.2
theorem rdS_inv {O R : List (List Int)} (hO : Od O) (h0 : Upto O (O.flatten.length : Int) R) (hR : okR R) (hl : R.length ≤ 12) : ∀ j, j ≤ O.flatten.length → Upto O ((O.flatten.length : Int) - j) (rdS O R O.flatten.length j).1 ∧ okR (rdS O R O.flatten.length j).1 ∧ (rdS O R O.flatten.length j).1.length ≤ 12
  | 0, _ => ⟨by simpa [rdS] using h0, hR, hl⟩
  | j + 1, hj => by
    obtain ⟨i1, i2, i3⟩ := rdS_inv hO h0 hR hl j (by omega)
    obtain ⟨r, p, hr, hp, e, hri, _, _⟩ := row_of hO (m := (O.flatten.length : Int) - j) (by omega) (by omega)
    have hc := (i1.corner hO hp e).1
    have h2 := takeL_ok i2 hc.lt
    have h1 := i1.step hO hp e
    have es : (rdS O R O.flatten.length (j + 1)).1 = (takeL (rdS O R O.flatten.length j).1 r).1 := by
      show (takeL _ (rowI O _).toNat).1 = _
      rw [hri, Int.toNat_natCast]
    rw [es]
    refine ⟨?_, h2.1, Nat.le_trans h2.2.1 i3⟩
    rw [show ((O.flatten.length : Int) - ((j + 1 : Nat) : Int)) = (O.flatten.length : Int) - j - 1 by omega]
    exact h1
end Go.Proofs.Ytpbemjdaanlaoaa.Pr
/- Printed out of the translation by the kit's print.py: contracts of fippleref08_all, fippleref08_Has. -/
namespace Go.Proofs.Ytpbemjdaanlaoaa.Pr
open Go.RowKit Go.Proofs.YtpbemjdaanlaoaaW.PrintWords Go.Proofs.YtpbemjdaanlaoaaW.PrintLast Go.Proofs.YtpbemjdaanlaoaaW.PrintMore
attribute [local go_sem] max2_int min2_int max_two min_two max_three min_three max_four min_four   -- for this text's walks alone
set_option linter.unusedVariables false
set_option linter.unusedSimpArgs false
/-! ### fippleref08_all: function 45 -/
def fippleref08_all.l0 : Nat → List (List Int) → List Int → Int → Option (List Int)
 | 0, _, _, _ => none
 | k + 1, x0, x3, x4 => if x4 < (x0.length : Int) then (if 0 ≤ x4 then (if x3.length + (rd_L1 x0 x4).length < 17592186044416 then (fippleref08_all.l0 k x0 (x3 ++ (rd_L1 x0 x4)) (wrap64 (x4 + 1))) else (none)) else (none)) else (some x3)
def fippleref08_all.f (k : Nat) (l0 : List (List Int)) : Option (List Int) := fippleref08_all.l0 k l0 ([] : List Int) 0
theorem fippleref08_all.mono_l : ∀ k, (∀ y0 y1 y2, LeO (fippleref08_all.l0 k y0 y1 y2) (fippleref08_all.l0 (k + 1) y0 y1 y2))
 | 0 => fun _ _ _ r h => by simp [fippleref08_all.l0] at h
 | k + 1 => by
  have ih0 := fippleref08_all.mono_l k
  ·
   intro y0 y1 y2
   unfold fippleref08_all.l0
   repeat' first
   | (with_reducible exact ih0 _ _ _)
   | (with_reducible exact LeO.refl _)
   | (with_reducible exact LeO.none _)
   | (with_reducible refine LeO.ite ?_ ?_)
   | (with_reducible refine LeO.bind ?_ (fun _ => ?_))
   | exact ih0 _ _ _
   | exact LeO.none _
   | refine LeO.ite ?_ ?_
   | refine LeO.bind ?_ (fun _ => ?_)
theorem fippleref08_all.mono : ∀ a0 k, LeO (fippleref08_all.f k a0) (fippleref08_all.f (k + 1) a0) := by
 intro a0 k
 have ih0 := fippleref08_all.mono_l k
 unfold fippleref08_all.f
 repeat' first
   | (with_reducible exact ih0 _ _ _)
   | (with_reducible exact LeO.refl _)
   | (with_reducible exact LeO.none _)
   | (with_reducible refine LeO.ite ?_ ?_)
   | (with_reducible refine LeO.bind ?_ (fun _ => ?_))
   | exact ih0 _ _ _
   | exact LeO.none _
   | refine LeO.ite ?_ ?_
   | refine LeO.bind ?_ (fun _ => ?_)
set_option maxHeartbeats 8000000 in
set_option maxRecDepth 100000 in
theorem fippleref08_all.calls (k : Nat) (A0 : Option Addr) (c0 : Nat) (l0 : List (List Int)) (r : List Int) (w : World) (hr0 : Kd.C (Kd.slice 3 (Kd.int .i64)) w A0 l0.length l0) (hc0 : l0.length ≤ c0) (h : fippleref08_all.f k l0 = some r) :
  Calls Try.prog 45 #[.slice A0 l0.length c0] w fun e w' => ∃ v0_ : Value, e = .returned (v0_) ∧ Kd.R (Kd.int .i64) 3 w' w.heap.size (fun _ => True) v0_ r ∧ Below w.heap.size w w' := by
 have HR0 := Aside0.mk hr0
 have HC0 := Aside0.mk hc0
 clear hr0 hc0
 have HB := Aside0.mk (Below.refl w.heap.size w)
 have H : (fippleref08_all.l0 k l0 ([] : List Int) 0) = some r := h
 clear h
 have H' := Aside0.mk H
 clear H
 go_enter Try.func45, Try.ntmps45
 go_wp2
 go_loopg [3, 4] k (fun kq v3 v4 w' => ∃ (x3_1 : List Int) (x4_1 : Int), v4 = .int .i64 x4_1 ∧ Aside0 (fippleref08_all.l0 kq l0 x3_1 x4_1 = some r) ∧ Aside0 (kq ≤ k) ∧ Aside0 (Kd.R (Kd.int .i64) 3 w' w.heap.size (fun _ => True) v3 x3_1) ∧ Aside0 (Below w.heap.size w w'))
 case atStart => exact ⟨(([] : List Int)), (0), (by first | rfl | (simp; done) | (simp [*]; done)), H', ⟨Nat.le_refl _⟩, ⟨by first | exact Kd.R_nil _ _ _ _ _ | exact Kd.N_nil _ _ _ _ _ | exact Kd.V_nil _ _ _ _ _ | exact Kd.Q_nil _ _ _ _ _ | exact Kd.S_nil _ _ _ _ _⟩, ⟨by repeat (first | (with_reducible first | exact HB.out | apply below_alloc | apply pw_below_drewN | apply below_drew1) | exact HB.out)⟩⟩
 case round =>
  clear H'
  obtain ⟨x3_1, x4_1, rfl, HA, HK1, HO_3, HB⟩ := hrel
  cases gk with
  | zero => exact absurd HA.out (by simp [fippleref08_all.l0])
  | succ k1 =>
   have H := HA.out
   clear HA
   simp only [fippleref08_all.l0] at H
   by_cases c2 : x4_1 < (l0.length : Int)
   ·
    rw [if_pos c2] at H
    have c2b0 : decide (x4_1 < (l0.length : Int)) = true := decide_eq_true c2
    clear c2
    by_cases c3 : 0 ≤ x4_1
    ·
     rw [if_pos c3] at H
     have c3b0 : decide (0 ≤ x4_1) = true := decide_eq_true c3
     clear c3
     by_cases c4 : x3_1.length + (rd_L1 l0 x4_1).length < 17592186044416
     ·
      rw [if_pos c4] at H
      have LMc4 := Aside0.mk c4
      clear c4
      obtain ⟨y212, hy212⟩ : ∃ y_ : List Int, y_ = (x3_1 ++ (rd_L1 l0 x4_1)) := ⟨_, rfl⟩
      replace H : (fippleref08_all.l0 k1 l0 y212 (wrap64 (x4_1 + 1))) = some r := by first | (rw [hy212]; with_reducible exact H) | (have H2_ := (Option.bind_some _ _).symm.trans H; rw [hy212]; with_reducible exact H2_) | (have H2_ := (Option.bind_some _ _).symm.trans H; with_reducible exact H2_) | with_reducible exact H | (rw [hy212]; exact H) | exact H
      have Ny212 := Aside0.mk hy212
      clear hy212
      have H' := Aside0.mk H
      clear H
      have p211 : 0 ≤ (x4_1 : Int) := of_decide_eq_true (by first | (with_reducible assumption) | assumption)
      have q211 : x4_1 < (l0.length : Int) := of_decide_eq_true (by first | (with_reducible assumption) | assumption)
      obtain ⟨ad211, A211_0, c211_0, e211, hx211_0, hl211_0, hi211_0⟩ := at_L1 HR0.out x4_1 p211 q211
      cases e211
      replace hx211_0 := (HB.out.cell (World.block_lt_of_cell? w _ hx211_0)).trans hx211_0
      have HR211_0 := Aside0.mk hi211_0
      have HC211_0 := Aside0.mk hl211_0
      clear hi211_0 hl211_0
      replace p211 := eq_true p211
      replace q211 := eq_true q211
      go_wp2_with (first | ((with_reducible refine gate_builtin (b := .append) (xs := #[.tmp 11, .tmp 15]) rfl ?_); at_builtin; refine Kd.R_append_rows (Kd.int .i64) (w0 := w) w.heap.size rfl (.tmp 11) (.tmp 15) 32 3 (.int .i64 0) 8 rfl Try.underlying32 info3 rfl (by decide) (by omega) u3 x3_1 (rd_L1 l0 x4_1) _ _ _ (fun _ => True) (fun _ => False) rfl rfl ?aO ?aR (fun _ _ h => h) (fun _ h => h.elim) ?aF ?aB ?aS ?aL ?_; (case aR => repeat (first | exact (Kd.C_below HR211_0.out HB.out) | (with_reducible refine Kd.C_alloc ?_ _) | (with_reducible refine Kd.C_drewN ?_ _) | (with_reducible refine Kd.C_drew ?_))); (case aB => exact (by repeat (first | (with_reducible first | exact HB.out | apply below_alloc | apply pw_below_drewN | apply below_drew1) | exact HB.out))); (case aF => exact (fun _ _ => trivial)); (case aO => exact (by (with_reducible repeat (first | apply Kd.R_alloc | apply Kd.R_drewN | apply Kd.R_drew)); exact HO_3.out)); (case aS => exact (below_size (by repeat (first | (with_reducible first | exact HB.out | apply below_alloc | apply pw_below_drewN | apply below_drew1) | exact HB.out)))); (case aL => have := LMc4.out; omega); intro v213 w5 ho hb hg hat; rw [← Ny212.out] at ho; have n0_ := Aside0.mk (hb); have n1_ := Aside0.mk (ho); clear HB; clear HO_3; have HB := n0_; have HO214 := n1_; clear n0_ n1_; clear ho hb hg hat))
      go_roundg k1
      case measure => have := HK1.out; omega
      case rel => exact ⟨(y212), (wrap64 (x4_1 + 1)), (by first | rfl | (simp; done) | (simp [*]; done)), H', ⟨by have := HK1.out; omega⟩, ⟨by (with_reducible repeat (first | apply Kd.R_alloc | apply Kd.R_drewN | apply Kd.R_drew)); exact HO214.out⟩, ⟨by repeat (first | (with_reducible first | exact HB.out | apply below_alloc | apply pw_below_drewN | apply below_drew1) | exact HB.out)⟩⟩
     ·
      rw [if_neg c4] at H
      exact absurd H (by simp)
    ·
     rw [if_neg c3] at H
     exact absurd H (by simp)
   ·
    rw [if_neg c2] at H
    have c2b0 : decide (x4_1 < (l0.length : Int)) = false := decide_eq_false c2
    clear c2
    obtain rfl := Option.some.inj H
    go_wp2
    go_ret
    exact ⟨_, by first | rfl | (simp [errW_none, errW_some] <;> rfl) | (simp [*, errW_none, errW_some] <;> rfl), by (with_reducible repeat (first | apply Kd.R_alloc | apply Kd.R_drewN | apply Kd.R_drew)); exact HO_3.out, by repeat (first | (with_reducible first | exact HB.out | apply below_alloc | apply pw_below_drewN | apply below_drew1) | exact HB.out)⟩

/-! ### fippleref08_Has: function 50 -/
def fippleref08_Has.l0 : Nat → List Int → Int → Int → Option (Bool)
 | 0, _, _, _ => none
 | k + 1, x0, x1, x5 => if x5 < (x0.length : Int) then (if 0 ≤ x5 then (if (rd x0 x5) = x1 then (some true) else (fippleref08_Has.l0 k x0 x1 (wrap64 (x5 + 1)))) else (none)) else (some false)
def fippleref08_Has.f (k : Nat) (l0 : List Int) (a1 : Int) : Option (Bool) := fippleref08_Has.l0 k l0 a1 0
theorem fippleref08_Has.mono_l : ∀ k, (∀ y0 y1 y2, LeO (fippleref08_Has.l0 k y0 y1 y2) (fippleref08_Has.l0 (k + 1) y0 y1 y2))
 | 0 => fun _ _ _ r h => by simp [fippleref08_Has.l0] at h
 | k + 1 => by
  have ih0 := fippleref08_Has.mono_l k
  ·
   intro y0 y1 y2
   unfold fippleref08_Has.l0
   repeat' first
   | (with_reducible exact ih0 _ _ _)
   | (with_reducible exact LeO.refl _)
   | (with_reducible exact LeO.none _)
   | (with_reducible refine LeO.ite ?_ ?_)
   | (with_reducible refine LeO.bind ?_ (fun _ => ?_))
   | exact ih0 _ _ _
   | exact LeO.none _
   | refine LeO.ite ?_ ?_
   | refine LeO.bind ?_ (fun _ => ?_)
theorem fippleref08_Has.mono : ∀ a0 a1 k, LeO (fippleref08_Has.f k a0 a1) (fippleref08_Has.f (k + 1) a0 a1) := by
 intro a0 a1 k
 have ih0 := fippleref08_Has.mono_l k
 unfold fippleref08_Has.f
 repeat' first
   | (with_reducible exact ih0 _ _ _)
   | (with_reducible exact LeO.refl _)
   | (with_reducible exact LeO.none _)
   | (with_reducible refine LeO.ite ?_ ?_)
   | (with_reducible refine LeO.bind ?_ (fun _ => ?_))
   | exact ih0 _ _ _
   | exact LeO.none _
   | refine LeO.ite ?_ ?_
   | refine LeO.bind ?_ (fun _ => ?_)
set_option maxHeartbeats 8000000 in
set_option maxRecDepth 100000 in
theorem fippleref08_Has.calls (k : Nat) (A0 : Option Addr) (c0 : Nat) (l0 : List Int) (a1 : Int) (r : Bool) (w : World) (hr0 : Kd.C (Kd.int .i64) w A0 l0.length l0) (hc0 : l0.length ≤ c0) (h : fippleref08_Has.f k l0 a1 = some r) :
  Calls Try.prog 50 #[.slice A0 l0.length c0, .int .i64 a1] w fun e w' => e = .returned (.bool r) ∧ Drawn0 w w' := by
 have HR0 := Aside0.mk hr0
 have HC0 := Aside0.mk hc0
 clear hr0 hc0
 have H : (fippleref08_Has.l0 k l0 a1 0) = some r := h
 clear h
 have H' := Aside0.mk H
 clear H
 go_enter Try.func50, Try.ntmps50
 go_wp2
 go_loopg [5] k (fun kq v5 w' => ∃ (x5_1 : Int), v5 = .int .i64 x5_1 ∧ Aside0 (fippleref08_Has.l0 kq l0 a1 x5_1 = some r) ∧ Aside0 (kq ≤ k) ∧ Drawn0 w w')
 case atStart => exact ⟨(0), (by first | rfl | (simp; done) | (simp [*]; done)), H', ⟨Nat.le_refl _⟩, by repeat (first | exact Drawn0.refl _ | apply Drawn0.step)⟩
 case round =>
  clear H'
  try clear p2
  obtain ⟨x5_1, rfl, HA, HK1, ⟨m1, rfl⟩⟩ := hrel
  cases gk with
  | zero => exact absurd HA.out (by simp [fippleref08_Has.l0])
  | succ k1 =>
   have H := HA.out
   clear HA
   simp only [fippleref08_Has.l0] at H
   by_cases c3 : x5_1 < (l0.length : Int)
   ·
    rw [if_pos c3] at H
    have c3b0 : decide (x5_1 < (l0.length : Int)) = true := decide_eq_true c3
    clear c3
    by_cases c4 : 0 ≤ x5_1
    ·
     rw [if_pos c4] at H
     have c4b0 : decide (0 ≤ x5_1) = true := decide_eq_true c4
     clear c4
     by_cases c5 : (rd l0 x5_1) = a1
     ·
      rw [if_pos c5] at H
      have c5b0 : ((rd l0 x5_1) == a1) = true := beq_iff_eq.mpr c5
      have c5b1 : ((rd l0 x5_1) != a1) = false := bne_eq_false_iff_eq.mpr c5
      clear c5
      obtain rfl := Option.some.inj H
      have p215 : 0 ≤ (x5_1 : Int) := of_decide_eq_true (by first | (with_reducible assumption) | assumption)
      have q215 : x5_1 < (l0.length : Int) := of_decide_eq_true (by first | (with_reducible assumption) | assumption)
      obtain ⟨ad215, e215, hx215_0⟩ := Kd.at_int HR0.out x5_1 p215 q215
      cases e215
      replace p215 := eq_true p215
      replace q215 := eq_true q215
      go_wp2
      go_ret
      exact ⟨by first | rfl | (simp; done) | (simp [*]; done), by repeat (first | exact Drawn0.refl _ | apply Drawn0.step)⟩
     ·
      rw [if_neg c5] at H
      have c5b0 : ((rd l0 x5_1) == a1) = false := beq_eq_false_iff_ne.mpr c5
      have c5b1 : ((rd l0 x5_1) != a1) = true := bne_iff_ne.mpr c5
      have H' := Aside0.mk H
      clear H
      have p215 : 0 ≤ (x5_1 : Int) := of_decide_eq_true (by first | (with_reducible assumption) | assumption)
      have q215 : x5_1 < (l0.length : Int) := of_decide_eq_true (by first | (with_reducible assumption) | assumption)
      obtain ⟨ad215, e215, hx215_0⟩ := Kd.at_int HR0.out x5_1 p215 q215
      cases e215
      replace p215 := eq_true p215
      replace q215 := eq_true q215
      go_wp2
      go_roundg k1
      case measure => have := HK1.out; omega
      case rel => exact ⟨(wrap64 (x5_1 + 1)), (by first | rfl | (simp; done) | (simp [*]; done)), H', ⟨by have := HK1.out; omega⟩, by repeat (first | exact Drawn0.refl _ | apply Drawn0.step)⟩
    ·
     rw [if_neg c4] at H
     exact absurd H (by simp)
   ·
    rw [if_neg c3] at H
    have c3b0 : decide (x5_1 < (l0.length : Int)) = false := decide_eq_false c3
    clear c3
    obtain rfl := Option.some.inj H
    go_wp2
    go_ret
    exact ⟨by first | rfl | (simp; done) | (simp [*]; done), by repeat (first | exact Drawn0.refl _ | apply Drawn0.step)⟩

end Go.Proofs.Ytpbemjdaanlaoaa.Pr
