/- Lemmas for the laws of rack: E0, RG, F0, A9, A0, B0, B1, C2, B3. -/
import Derived.Test.YtpbemjdaanlaoaaN0
import Derived.Test.YtpbemjdaanlaoaaPr0
import Derived.Test.YtpbemjdaanlaoaaPr1
import Derived.RangeFuncNested
import Derived.RangeFuncBound
import Derived.RangeFuncCalls
import Derived.RangeFuncLeaves
import Derived.Shelf.Abstract
import Derived.Shelf.RegionOpen
import Derived.OwnWalkIn
import Derived.TacticsInMore
import Derived.LoopNIn
import Derived.LoopIn
import Derived.Sort.QuietIn
import Derived.IntWalk
set_option linter.unusedVariables false
set_option linter.unusedSimpArgs false
set_option linter.unusedVariables false
set_option linter.unusedSimpArgs false
namespace Go.Proofs.Ytpbemjdaanlaoaa.Pr
open Go.RowKit Go.Proofs.YtpbemjdaanlaoaaW.PrintWords Go.Proofs.YtpbemjdaanlaoaaW.PrintLast Go.Proofs.YtpbemjdaanlaoaaW.PrintMore
open Go.Maps
set_option maxRecDepth 100000

/-! What a taper that is put in leaves: sizes. -/
def okL (m : Nat) (rows : List (List Int)) : Prop := ∀ row ∈ rows, row.length ≤ m ∧ ∀ x ∈ row, wfi x
theorem okL.mono {m m' : Nat} {rows : List (List Int)} (h : okL m rows) (hm : m ≤ m') : okL m' rows := fun r hr => ⟨Nat.le_trans (h r hr).1 hm, (h r hr).2⟩
theorem okL.okR {m : Nat} {rows : List (List Int)} (h : okL m rows) (hm : m ≤ 1000) : okR rows := h.mono hm
theorem okL_at {m : Nat} {rows : List (List Int)} (h : okL m rows) {k : Nat} (hk : k < rows.length) : (rd_L1 rows (k : Int)).length ≤ m ∧ ∀ x ∈ rd_L1 rows (k : Int), wfi x := by
  rw [rdL_get rows k hk]; exact h _ (List.getElem_mem hk)
theorem okL_set {m : Nat} {rows : List (List Int)} (h : okL m rows) (k : Nat) {row : List Int} (hr : row.length ≤ m ∧ ∀ x ∈ row, wfi x) : okL m (rows.set k row) := by
  intro r hr2
  rcases List.mem_or_eq_of_mem_set hr2 with h1 | h1
  · exact h r h1
  · rw [h1]; exact hr
theorem okL_app {m : Nat} {rows : List (List Int)} (h : okL m rows) {row : List Int} (hr : row.length ≤ m ∧ ∀ x ∈ row, wfi x) : okL m (rows ++ [row]) := by
  intro r hr2
  rcases List.mem_append.1 hr2 with h1 | h1
  · exact h r h1
  · rw [List.mem_singleton.1 h1]; exact hr
theorem putS_okL {m : Nat} {rows : List (List Int)} {t : Int} (h : okL m rows) (ht : wfi t) : ∀ k, k ≤ rows.length → okL m (putS rows t k).1 ∧ wfi (putS rows t k).2.1
  | 0, _ => ⟨h, ht⟩
  | k + 1, hk => by
    obtain ⟨i1, i2⟩ := putS_okL h ht k (by omega)
    have hl := putS_len rows t k
    have h1 := okL_at i1 (k := k) (by omega)
    refine ⟨okL_set i1 k ⟨by rw [List.length_set]; exact h1.1, fun x hx => ?_⟩, rd_wfi h1.2 _⟩
    rcases List.mem_or_eq_of_mem_set hx with h2 | h2
    · exact h1.2 x h2
    · rw [h2]; exact i2
theorem putFind_size {m : Nat} {rows : List (List Int)} {t : Int} (h : okL m rows) (ht : wfi t) : ∀ d k, k + d = rows.length → ∃ j : Nat, j ≤ rows.length ∧ (putFind rows t d k).2.1 = (j : Int) ∧ (putFind rows t d k).1.length = (if j = rows.length then rows.length + 1 else rows.length) ∧ okL (m + 1) (putFind rows t d k).1
  | 0, k, hk => by
    have hk' : k = rows.length := by omega
    obtain ⟨i1, i2⟩ := putS_okL h ht k (by omega)
    refine ⟨k, by omega, rfl, ?_, ?_⟩
    · rw [if_pos hk']
      show ((putS rows t k).1 ++ [[(putS rows t k).2.1]]).length = _
      rw [List.length_append, putS_len]; rfl
    · exact okL_app (i1.mono (by omega)) ⟨by simp, fun x hx => by rw [List.mem_singleton.1 hx]; exact i2⟩
  | d + 1, k, hk => by
    obtain ⟨i1, i2⟩ := putS_okL h ht k (by omega)
    unfold putFind
    split
    · refine ⟨k, by omega, rfl, ?_, ?_⟩
      · show ((putS rows t k).1.set k _).length = _
        rw [List.length_set, putS_len, if_neg (show ¬ k = rows.length by omega)]
      · have h1 := okL_at i1 (k := k) (by rw [putS_len]; omega)
        refine okL_set (i1.mono (by omega)) k ⟨by rw [List.length_append]; simp; exact h1.1, fun x hx => ?_⟩
        rcases List.mem_append.1 hx with h2 | h2
        · exact h1.2 x h2
        · rw [List.mem_singleton.1 h2]; exact i2
    · exact putFind_size h ht d (k + 1) (by omega)
theorem putL_size {m : Nat} {rows : List (List Int)} {t : Int} (h : okL m rows) (ht : wfi t) : ∃ j : Nat, j ≤ rows.length ∧ (putL rows t).2.1 = (j : Int) ∧ (putL rows t).1.length = (if j = rows.length then rows.length + 1 else rows.length) ∧ okL (m + 1) (putL rows t).1 :=
  putFind_size h ht rows.length 0 (by omega)

/-- A row more, if the one that is asked for isn't there; and a number at its end. -/
def addO (o : List (List Int)) (j : Nat) (x : Int) : List (List Int) := (if j = o.length then o ++ [[]] else o).set j (rd_L1 (if j = o.length then o ++ [[]] else o) (j : Int) ++ [x])
theorem addO_len (o : List (List Int)) (j : Nat) (x : Int) : (addO o j x).length = (if j = o.length then o.length + 1 else o.length) := by
  unfold addO
  rw [List.length_set]
  split <;> simp
/-- The rack and the order of the first k tapers. -/
def bS (s : List Int) : Nat → List (List Int) × List (List Int)
  | 0 => ([], [])
  | k + 1 => ((putL (bS s k).1 (rd s (k : Int))).1, addO (bS s k).2 (putL (bS s k).1 (rd s (k : Int))).2.1.toNat ((k : Int) + 1))
def lenL (m : Nat) (rows : List (List Int)) : Prop := ∀ row ∈ rows, row.length ≤ m
theorem lenL_at {m : Nat} {rows : List (List Int)} (h : lenL m rows) (k : Int) : (rd_L1 rows k).length ≤ m := by
  unfold rd_L1
  rw [List.getD_eq_getElem?_getD]
  by_cases hk : k.toNat < rows.length
  · rw [List.getElem?_eq_getElem hk]; exact h _ (List.getElem_mem hk)
  · rw [List.getElem?_eq_none (by omega)]; simp
theorem addO_lenL {m : Nat} {o : List (List Int)} (h : lenL m o) (j : Nat) (x : Int) : lenL (m + 1) (addO o j x) := by
  have h2 : lenL m (if j = o.length then o ++ [[]] else o) := by
    split
    · intro r hr
      rcases List.mem_append.1 hr with h1 | h1
      · exact h r h1
      · rw [List.mem_singleton.1 h1]; simp
    · exact h
  intro r hr
  rcases List.mem_or_eq_of_mem_set hr with h1 | h1
  · exact Nat.le_succ_of_le (h2 r h1)
  · rw [h1, List.length_append]
    have := lenL_at h2 (j : Int)
    simp only [List.length_singleton]; omega
theorem bS_inv {s : List Int} (hs : ∀ x ∈ s, wfi x) : ∀ k, okL k (bS s k).1 ∧ lenL k (bS s k).2 ∧ (bS s k).1.length = (bS s k).2.length ∧ (bS s k).1.length ≤ k
  | 0 => ⟨fun r hr => by simp [bS] at hr, fun r hr => by simp [bS] at hr, rfl, Nat.zero_le _⟩
  | k + 1 => by
    obtain ⟨i1, i2, i3, i4⟩ := bS_inv hs k
    obtain ⟨j, hj, h1, h2, h3⟩ := putL_size i1 (rd_wfi hs k)
    refine ⟨h3, ?_, ?_, ?_⟩
    · exact addO_lenL i2 _ _
    · show (putL (bS s k).1 (rd s (k : Int))).1.length = (addO (bS s k).2 (putL (bS s k).1 (rd s (k : Int))).2.1.toNat ((k : Int) + 1)).length
      rw [addO_len, h2, h1, Int.toNat_natCast, ← i3]
    · show (putL (bS s k).1 (rd s (k : Int))).1.length ≤ k + 1
      rw [h2]; split <;> omega

/-! Rows of rows of the call's own: an element, lent and appended to. -/
section
variable {w w1 : World} {base go n cap : Nat} {ok : Nat → Prop} {rows : List (List Int)}
theorem S_elem (h : Kd.S (Kd.slice 3 (Kd.int .i64)) 32 w base ok (.slice (some ⟨go, 0, none⟩) n cap) rows) (k : Nat) (hk : k < rows.length) :
    ∃ vk, w.cell? ⟨go, k, none⟩ = some vk ∧ ∃ oki, Kd.R (Kd.int .i64) 3 w base oki vk (rd_L1 rows (k : Int)) ∧ (∀ q, oki q → ok q ∧ q ≠ go) ∧ Kd.H (Kd.slice 3 (Kd.int .i64)) 32 w base ok (.slice (some ⟨go, 0, none⟩) n cap) rows (k : Int) oki [vk] := by
  have hn := (Kd.S_reads' h).1
  obtain ⟨oki, c, hc, ⟨vk, rfl, hR⟩, hcell, hoki, hH⟩ := Kd.S_lend h ([] : List Int) (k : Int) (by omega) (by omega)
  refine ⟨vk, ?_, oki, hR, hoki, hH⟩
  have := hcell 0 vk rfl
  have e : (k : Int).toNat * (Kd.slice 3 (Kd.int .i64)).sz + 0 = k := by simp [Kd.slice]
  rw [e] at this
  exact this
theorem S_elem_back {k : Nat} (h : Kd.S (Kd.slice 3 (Kd.int .i64)) 32 w base ok (.slice (some ⟨go, 0, none⟩) n cap) rows) (hk : k < rows.length) {oki : Nat → Prop} {vk v1 : Value} {row row1 : List Int}
    (hR : Kd.R (Kd.int .i64) 3 w base oki vk row) (hoki : ∀ q, oki q → ok q ∧ q ≠ go) (hH : Kd.H (Kd.slice 3 (Kd.int .i64)) 32 w base ok (.slice (some ⟨go, 0, none⟩) n cap) rows (k : Int) oki [vk])
    (hR1 : Kd.R (Kd.int .i64) 3 w1 base (fun q => oki q ∨ ok q ∧ w.heap.size ≤ q) v1 row1) (hg : w.grownBy w1 vk.ownBlock) :
    (∃ u, w1.cell? ⟨go, k, none⟩ = some u) ∧ w1.frozen? ⟨go, k, none⟩ = false ∧ base ≤ go ∧ ok go ∧ Kd.S (Kd.slice 3 (Kd.int .i64)) 32 (w1.setCell ⟨go, k, none⟩ v1) base ok (.slice (some ⟨go, 0, none⟩) n cap) (rows.set k row1) := by
  have hnn := (Kd.S_reads' h).1
  have eo : (Value.slice (some ⟨go, 0, none⟩) n cap).ownBlock = some go := by simp [Value.ownBlock]
  have hgo : some go ≠ vk.ownBlock := fun e => (hoki go (hR.1 go e.symm)).2 rfl
  obtain ⟨cells, hty⟩ := Kd.S_typed h go eo
  have hty1 : w1.heap[go]? = some (.cells cells 32 (0, 0)) := (hg.block go (blk_lt hty) hgo).trans hty
  have hH1 := Kd.H_grown (Kd.H_widen hH) hg (fun q e => .inl (hR.1 q e))
  obtain ⟨_, _, _, _, _, hcc, _⟩ := Kd.H_raw hH1 (by omega) (by omega)
  have e0 : (k : Int).toNat * (Kd.slice 3 (Kd.int .i64)).sz + 0 = k := by simp [Kd.slice]
  have hc := hcc 0 vk rfl
  rw [e0] at hc
  obtain ⟨hH2, hg2⟩ := Kd.H_seg (seg := [v1]) (j := 0) hH1 (by omega) (by omega) (by simp [Kd.slice]) (fun q hq => by rw [List.mem_singleton.1 hq]; obtain ⟨A, c, rfl⟩ := Kd.R_slice hR1; rfl)
  rw [e0] at hH2 hg2
  have hR2 := Kd.R_grown hR1 hg2 (fun q hq e => by
    injection e with e
    subst e
    rcases hq with hq | hq
    · exact (hoki _ hq).2 rfl
    · have := blk_lt hty; omega)
  have hS := Kd.H_back hH2 (Kd.M_row hR2) (fun _ hq => hq)
  rw [Int.toNat_natCast] at hS
  exact ⟨⟨vk, hc⟩, by simp [World.frozen?, hty1], Kd.S_base h go eo, h.choose_spec.1 _ eo, hS⟩
end
theorem StandO.keep {O : Nat → Prop} {w w1 : World} {base g bm n : Nat} {D : DataW Unit} {v : Value} {rows : List (List Int)} (h : StandO O w base g bm n D v rows) (hk : ∀ k, O k → k < w.heap.size → w1.heap[k]? = w.heap[k]?) : StandO O w1 base g bm n D v rows := by
  obtain ⟨es, cl, hb, hr⟩ := h.own
  refine ⟨(hk g h.og (blk_lt h.blk)).trans h.blk, h.gb, h.bb, h.og, h.ob, Kd.S_step h.row hk, ?_⟩
  exact ⟨es, cl, (hk bm h.ob (blk_lt hb)).trans hb, hr⟩
theorem StandO.bound {O : Nat → Prop} {w : World} {base g bm n : Nat} {D : DataW Unit} {v : Value} {rows : List (List Int)} (h : StandO O w base g bm n D v rows) : StandO (fun k => O k ∧ k < w.heap.size) w base g bm n D v rows := by
  obtain ⟨es, cl, hb⟩ := h.toAt.mapObj
  exact ⟨h.blk, h.gb, h.bb, ⟨h.og, blk_lt h.blk⟩, ⟨h.ob, blk_lt hb⟩, Kd.S_mono (Kd.S_bound h.row) (fun _ hk => ⟨hk.1, hk.2.2.1⟩), h.own⟩
/-- Behind a call that turned the stand alone: what stands apart from it is as it was. -/
theorem stand_step {O : Nat → Prop} {w w1 : World} {base g bm n : Nat} {D : DataW Unit} {v : Value} {rows : List (List Int)} (hS : StandO (ext O w.heap.size) w1 base g bm n D v rows) (hK : Kpt O w w1) (hOb : ∀ q, O q → base ≤ q) (hbw : base ≤ w.heap.size) :
    ∃ O2, StandO O2 w1 base g bm n D v rows ∧ (∀ q, O2 q → base ≤ q) ∧ (∀ q, w1.heap.size ≤ q → ¬ O2 q) ∧ (∀ q, ¬ O q → q < w.heap.size → ¬ O2 q ∧ w1.heap[q]? = w.heap[q]?) ∧ Below base w w1 :=
  ⟨fun q => ext O w.heap.size q ∧ q < w1.heap.size, hS.bound, fun q hq => hq.1.elim (hOb q) (fun h => by omega), fun q hq e => by have := e.2; omega, fun q hn hlt => ⟨fun e => e.1.elim hn (fun h => by omega), hK.block q hlt hn⟩, hK.toBelow hOb hbw⟩
theorem S_apart {O O2 : Nat → Prop} {w w1 : World} {base : Nat} {o : Value} {ord : List (List Int)} (hO : Kd.S (Kd.slice 3 (Kd.int .i64)) 32 w base (fun q => ¬ O q) o ord) (h : ∀ q, ¬ O q → q < w.heap.size → ¬ O2 q ∧ w1.heap[q]? = w.heap[q]?) : Kd.S (Kd.slice 3 (Kd.int .i64)) 32 w1 base (fun q => ¬ O2 q) o ord :=
  Kd.S_mono (Kd.S_step (Kd.S_bound hO) (fun q hq hlt => (h q hq.1 hlt).2)) (fun q hq => (h q hq.1 hq.2.2.1).1)
theorem StandO.grown {O : Nat → Prop} {w w1 : World} {base g bm n : Nat} {D : DataW Unit} {v : Value} {rows : List (List Int)} (h : StandO O w base g bm n D v rows) {row : Option Nat} (hg : w.grownBy w1 row) (hr : ∀ k, row = some k → ¬ O k) : StandO O w1 base g bm n D v rows :=
  h.keep (fun k ho hlt => hg.block k hlt (fun e => hr k e.symm ho))
theorem Kpt.after {O : Nat → Prop} {w w1 w2 : World} (h : Kpt O w w1) (hs : w.heap.size = w1.heap.size) (k : Kpt O w1 w2) : Kpt O w w2 :=
  ⟨k.os.trans h.os, k.tape.trans h.tape, k.output.trans h.output, Nat.le_trans h.size k.size, fun i hi hn => (k.block i (by omega) hn).trans (h.block i hi hn)⟩
end Go.Proofs.Ytpbemjdaanlaoaa.Pr
/- Printed out of the translation by the kit's print.py: contracts of fippleref08_Copy. -/
namespace Go.Proofs.Ytpbemjdaanlaoaa.Pr
open Go.RowKit Go.Proofs.YtpbemjdaanlaoaaW.PrintWords Go.Proofs.YtpbemjdaanlaoaaW.PrintLast Go.Proofs.YtpbemjdaanlaoaaW.PrintMore
attribute [local go_sem] max2_int min2_int max_two min_two max_three min_three max_four min_four   -- for this text's walks alone
set_option linter.unusedVariables false
set_option linter.unusedSimpArgs false
/-! ### fippleref08_Copy: function 85 -/
def fippleref08_Copy.l0 : Nat → List (List Int) → List (List Int) → Int → Option ((List (List Int)))
 | 0, _, _, _ => none
 | k + 1, x0, x3, x4 => if x4 < (x0.length : Int) then ((some (([] : List Int) : List Int)).bind fun y539 => (if 0 ≤ x4 then (if y539.length + (rd_L1 x0 x4).length < 17592186044416 then (if x3.length < 5864062014805 then (fippleref08_Copy.l0 k x0 (x3 ++ [(y539 ++ (rd_L1 x0 x4))]) (wrap64 (x4 + 1))) else (none)) else (none)) else (none))) else (some x3)
def fippleref08_Copy.f (k : Nat) (l0 : List (List Int)) : Option ((List (List Int))) := fippleref08_Copy.l0 k l0 ([] : List (List Int)) 0
theorem fippleref08_Copy.mono_l : ∀ k, (∀ y0 y1 y2, LeO (fippleref08_Copy.l0 k y0 y1 y2) (fippleref08_Copy.l0 (k + 1) y0 y1 y2))
 | 0 => fun _ _ _ r h => by simp [fippleref08_Copy.l0] at h
 | k + 1 => by
  have ih0 := fippleref08_Copy.mono_l k
  ·
   intro y0 y1 y2
   unfold fippleref08_Copy.l0
   repeat' first
   | (with_reducible exact ih0 _ _ _)
   | (with_reducible exact LeO.refl _)
   | (with_reducible exact LeO.none _)
   | (with_reducible refine LeO.ite ?_ ?_)
   | (with_reducible refine LeO.bind ?_ (fun _ => ?_))
   | exact ih0 _ _ _
   | exact LeO.none _
   | refine LeO.ite ?_ ?_
   | refine LeO.bind ?_ (fun _ => ?_)
theorem fippleref08_Copy.mono : ∀ a0 k, LeO (fippleref08_Copy.f k a0) (fippleref08_Copy.f (k + 1) a0) := by
 intro a0 k
 have ih0 := fippleref08_Copy.mono_l k
 unfold fippleref08_Copy.f
 repeat' first
   | (with_reducible exact ih0 _ _ _)
   | (with_reducible exact LeO.refl _)
   | (with_reducible exact LeO.none _)
   | (with_reducible refine LeO.ite ?_ ?_)
   | (with_reducible refine LeO.bind ?_ (fun _ => ?_))
   | exact ih0 _ _ _
   | exact LeO.none _
   | refine LeO.ite ?_ ?_
   | refine LeO.bind ?_ (fun _ => ?_)
set_option maxHeartbeats 8000000 in
set_option maxRecDepth 100000 in
theorem fippleref08_Copy.calls (k : Nat) (A0 : Option Addr) (c0 : Nat) (l0 : List (List Int)) (r : List (List Int)) (w : World) (hr0 : Kd.C (Kd.slice 3 (Kd.int .i64)) w A0 l0.length l0) (hc0 : l0.length ≤ c0) (h : fippleref08_Copy.f k l0 = some r) :
  Calls Try.prog 85 #[.slice A0 l0.length c0] w fun e w' => ∃ v0_ : Value, e = .returned (v0_) ∧ Kd.S (Kd.slice 3 (Kd.int .i64)) 32 w' w.heap.size (fun _ => True) v0_ r ∧ Below w.heap.size w w' := by
 have HR0 := Aside0.mk hr0
 have HC0 := Aside0.mk hc0
 clear hr0 hc0
 have HB := Aside0.mk (Below.refl w.heap.size w)
 have H : (fippleref08_Copy.l0 k l0 ([] : List (List Int)) 0) = some r := h
 clear h
 have H' := Aside0.mk H
 clear H
 go_enter Try.func85, Try.ntmps85
 go_wp2
 go_loopg [3, 4] k (fun kq v3 v4 w' => ∃ (x3_1 : List (List Int)) (x4_1 : Int), v4 = .int .i64 x4_1 ∧ Aside0 (fippleref08_Copy.l0 kq l0 x3_1 x4_1 = some r) ∧ Aside0 (kq ≤ k) ∧ Aside0 (Kd.S (Kd.slice 3 (Kd.int .i64)) 32 w' w.heap.size (fun _ => True) v3 x3_1) ∧ Aside0 (Below w.heap.size w w'))
 case atStart => exact ⟨(([] : List (List Int))), (0), (by first | rfl | (simp; done) | (simp [*]; done)), H', ⟨Nat.le_refl _⟩, ⟨by first | exact Kd.S_nil _ _ _ _ _ | exact Kd.N_nil _ _ _ _ _ | exact Kd.V_nil _ _ _ _ _ | exact Kd.Q_nil _ _ _ _ _ | exact Kd.R_nil _ _ _ _ _⟩, ⟨by repeat (first | (with_reducible first | exact HB.out | apply below_alloc | apply pw_below_drewN | apply below_drew1) | exact HB.out)⟩⟩
 case round =>
  clear H'
  obtain ⟨x3_1, x4_1, rfl, HA, HK1, HO_3, HB⟩ := hrel
  cases gk with
  | zero => exact absurd HA.out (by simp [fippleref08_Copy.l0])
  | succ k1 =>
   have H := HA.out
   clear HA
   simp only [fippleref08_Copy.l0] at H
   by_cases c2 : x4_1 < (l0.length : Int)
   ·
    rw [if_pos c2] at H
    have c2b0 : decide (x4_1 < (l0.length : Int)) = true := decide_eq_true c2
    clear c2
    obtain ⟨y539, hy539⟩ : ∃ y_ : List Int, y_ = (([] : List Int)) := ⟨_, rfl⟩
    replace H : (if 0 ≤ x4_1 then (if y539.length + (rd_L1 l0 x4_1).length < 17592186044416 then (if x3_1.length < 5864062014805 then (fippleref08_Copy.l0 k1 l0 (x3_1 ++ [(y539 ++ (rd_L1 l0 x4_1))]) (wrap64 (x4_1 + 1))) else (none)) else (none)) else (none)) = some r := by first | (rw [hy539]; with_reducible exact H) | (have H2_ := (Option.bind_some _ _).symm.trans H; rw [hy539]; with_reducible exact H2_) | (have H2_ := (Option.bind_some _ _).symm.trans H; with_reducible exact H2_) | with_reducible exact H | (rw [hy539]; exact H) | exact H
    have Ny539 := Aside0.mk hy539
    clear hy539
    by_cases c3 : 0 ≤ x4_1
    ·
     rw [if_pos c3] at H
     have c3b0 : decide (0 ≤ x4_1) = true := decide_eq_true c3
     clear c3
     by_cases c4 : y539.length + (rd_L1 l0 x4_1).length < 17592186044416
     ·
      rw [if_pos c4] at H
      have LMc4 := Aside0.mk c4
      clear c4
      obtain ⟨y543, hy543⟩ : ∃ y_ : List Int, y_ = (y539 ++ (rd_L1 l0 x4_1)) := ⟨_, rfl⟩
      replace H : (if x3_1.length < 5864062014805 then (fippleref08_Copy.l0 k1 l0 (x3_1 ++ [y543]) (wrap64 (x4_1 + 1))) else (none)) = some r := by first | (rw [hy543]; with_reducible exact H) | (have H2_ := (Option.bind_some _ _).symm.trans H; rw [hy543]; with_reducible exact H2_) | (have H2_ := (Option.bind_some _ _).symm.trans H; with_reducible exact H2_) | with_reducible exact H | (rw [hy543]; exact H) | exact H
      have Ny543 := Aside0.mk hy543
      clear hy543
      by_cases c5 : x3_1.length < 5864062014805
      ·
       rw [if_pos c5] at H
       have LMc5 := Aside0.mk c5
       clear c5
       obtain ⟨y546, hy546⟩ : ∃ y_ : List (List Int), y_ = (x3_1 ++ [y543]) := ⟨_, rfl⟩
       replace H : (fippleref08_Copy.l0 k1 l0 y546 (wrap64 (x4_1 + 1))) = some r := by first | (rw [hy546]; with_reducible exact H) | (have H2_ := (Option.bind_some _ _).symm.trans H; rw [hy546]; with_reducible exact H2_) | (have H2_ := (Option.bind_some _ _).symm.trans H; with_reducible exact H2_) | with_reducible exact H | (rw [hy546]; exact H) | exact H
       have Ny546 := Aside0.mk hy546
       clear hy546
       have H' := Aside0.mk H
       clear H
       go_wp2_with (first | ((with_reducible refine gate_dst (N := 12) rfl ?_); refine Kd.R_lit (Kd.int .i64) _ 3 ?hg (N := 12) ?hd (xs := ([] : List Int)) (inner := []) (ok := fun _ => True) (okp := fun _ => True) ?hr ?hp (fun _ hk => hk) trivial (Below.refl _ _) (Nat.le_refl _) (by simp) ?_; (case hd => rfl); (case hg => rfl); (case hr => first | (go_simp; done) | (go_simp; rfl)); (case hp => exact (Reps.none _ _)); intro v540 w6 ho7 hb hg_ hnew_; clear hg_ hnew_; (first | rw [← Ny539.out] at ho7 | (simp only [Int.reduceToNat] at ho7; rw [← Ny539.out] at ho7)); have n0_ := Aside0.mk (Kd.S_elder' (by (with_reducible repeat (first | apply Kd.S_alloc | apply Kd.S_drewN | apply Kd.S_drew)); exact HO_3.out) (Kd.R_base ho7) hb); have n1_ := Aside0.mk (Kd.R_lower ho7 (below_size (by repeat (first | (with_reducible first | exact HB.out | apply below_alloc | apply pw_below_drewN | apply below_drew1) | exact HB.out)))); have n2_ := Aside0.mk (below_step (by repeat (first | (with_reducible first | exact HB.out | apply below_alloc | apply pw_below_drewN | apply below_drew1) | exact HB.out)) hb); clear HO_3; clear HB; have HO_3 := n0_; have HO541 := n1_; have HB := n2_; clear n0_ n1_ n2_; clear hb ho7; have p542 : 0 ≤ (x4_1 : Int) := of_decide_eq_true (by first | (with_reducible assumption) | assumption); have q542 : x4_1 < (l0.length : Int) := of_decide_eq_true (by first | (with_reducible assumption) | assumption); obtain ⟨ad542, A542_0, c542_0, e542, hx542_0, hl542_0, hi542_0⟩ := at_L1 HR0.out x4_1 p542 q542; cases e542; replace hx542_0 := (HB.out.cell (World.block_lt_of_cell? w _ hx542_0)).trans hx542_0; have HR542_0 := Aside0.mk hi542_0; have HC542_0 := Aside0.mk hl542_0; clear hi542_0 hl542_0; replace p542 := eq_true p542; replace q542 := eq_true q542) | ((with_reducible refine gate_builtin (b := .append) (xs := #[.tmp 12, .tmp 16]) rfl ?_); at_builtin; refine Kd.R_append_rows (Kd.int .i64) (w0 := w) w.heap.size rfl (.tmp 12) (.tmp 16) 32 3 (.int .i64 0) 8 rfl Try.underlying32 info3 rfl (by decide) (by omega) v540 y539 (rd_L1 l0 x4_1) _ _ _ (fun _ => True) (fun _ => False) rfl rfl ?aO ?aR (fun _ _ h => h) (fun _ h => h.elim) ?aF ?aB ?aS ?aL ?_; (case aR => repeat (first | exact (Kd.C_below HR542_0.out HB.out) | (with_reducible refine Kd.C_alloc ?_ _) | (with_reducible refine Kd.C_drewN ?_ _) | (with_reducible refine Kd.C_drew ?_))); (case aB => exact (by repeat (first | (with_reducible first | exact HB.out | apply below_alloc | apply pw_below_drewN | apply below_drew1) | exact HB.out))); (case aF => exact (fun _ _ => trivial)); (case aO => exact (by (with_reducible repeat (first | apply Kd.R_alloc | apply Kd.R_drewN | apply Kd.R_drew)); exact HO541.out)); (case aS => exact (below_size (by repeat (first | (with_reducible first | exact HB.out | apply below_alloc | apply pw_below_drewN | apply below_drew1) | exact HB.out)))); (case aL => have := LMc4.out; omega); intro v544 w8 ho hb hg hat; rw [← Ny543.out] at ho; have n0_ := Aside0.mk (Kd.S_after (ok := (fun _ => True)) (by (with_reducible repeat (first | apply Kd.S_alloc | apply Kd.S_drewN | apply Kd.S_drew)); exact HO_3.out) hg hat); have n1_ := Aside0.mk (hb); have n2_ := Aside0.mk (ho); clear HO_3; clear HB; clear HO541; have HO_3 := n0_; have HB := n1_; have HO545 := n2_; clear n0_ n1_ n2_; clear ho hb hg hat; obtain ⟨Ao10, co10, eo10⟩ := Kd.R_slice HO545.out; subst eo10) | ((with_reducible refine gate_builtin (b := .append) (xs := #[.tmp 11, .tmp 18]) rfl ?_); at_builtin; refine Kd.S_append (Kd.slice 3 (Kd.int .i64)) (w0 := w) w.heap.size rfl (.tmp 11) (.tmp 18) 22 32 (.slice none 0 0) 24 rfl Try.underlying22 info32 rfl (by decide) (by omega) u3 x3_1 y543 [.slice Ao10 y543.length co10] (fun _ => True) (fun k_ => some k_ = (.slice Ao10 y543.length co10 : Value).ownBlock) rfl rfl ?aP (fun k_ hk_ => ((Kd.R_mono (ok' := fun k_ => ((fun _ => True)) k_ ∧ some k_ ≠ (u3 : Value).ownBlock) (Kd.R_apart' (HO545.out) (Kd.S_typed HO_3.out) (by decide)) (fun k_ hk => ⟨trivial, hk.2⟩))).1 k_ hk_.symm) ?aF ?aO ?aB ?aS ?aL ?_; (case aP => exact Kd.M_row (Kd.R_mono (Kd.R_tight rfl (Kd.R_mono (ok' := fun k_ => ((fun _ => True)) k_ ∧ some k_ ≠ (u3 : Value).ownBlock) (Kd.R_apart' (HO545.out) (Kd.S_typed HO_3.out) (by decide)) (fun k_ hk => ⟨trivial, hk.2⟩))) (fun _ h_ => h_))); (case aB => exact (by repeat (first | (with_reducible first | exact HB.out | apply below_alloc | apply pw_below_drewN | apply below_drew1) | exact HB.out))); (case aF => exact (fun _ _ => trivial)); (case aO => exact (by (with_reducible repeat (first | apply Kd.S_alloc | apply Kd.S_drewN | apply Kd.S_drew)); exact Kd.S_mono HO_3.out (fun k_ hk => ⟨trivial, fun e_ => hk.2 e_⟩))); (case aS => exact (below_size (by repeat (first | (with_reducible first | exact HB.out | apply below_alloc | apply pw_below_drewN | apply below_drew1) | exact HB.out)))); (case aL => have := LMc5.out; omega); intro v547 w9 ho hb hg hat; rw [← Ny546.out] at ho; have n0_ := Aside0.mk (hb); have n1_ := Aside0.mk (ho); clear HB; clear HO_3; clear HO545; have HB := n0_; have HO548 := n1_; clear n0_ n1_; clear ho hb hg hat))
       go_roundg k1
       case measure => have := HK1.out; omega
       case rel => exact ⟨(y546), (wrap64 (x4_1 + 1)), (by first | rfl | (simp; done) | (simp [*]; done)), H', ⟨by have := HK1.out; omega⟩, ⟨by (with_reducible repeat (first | apply Kd.S_alloc | apply Kd.S_drewN | apply Kd.S_drew)); exact HO548.out⟩, ⟨by repeat (first | (with_reducible first | exact HB.out | apply below_alloc | apply pw_below_drewN | apply below_drew1) | exact HB.out)⟩⟩
      ·
       rw [if_neg c5] at H
       exact absurd H (by simp)
     ·
      rw [if_neg c4] at H
      exact absurd H (by simp)
    ·
     rw [if_neg c3] at H
     exact absurd H (by simp)
   ·
    rw [if_neg c2] at H
    have c2b0 : decide (x4_1 < (l0.length : Int)) = false := decide_eq_false c2
    clear c2
    obtain rfl := Option.some.inj H
    go_wp2
    go_ret
    exact ⟨_, by first | rfl | (simp [errW_none, errW_some] <;> rfl) | (simp [*, errW_none, errW_some] <;> rfl), by (with_reducible repeat (first | apply Kd.S_alloc | apply Kd.S_drewN | apply Kd.S_drew)); exact HO_3.out, by repeat (first | (with_reducible first | exact HB.out | apply below_alloc | apply pw_below_drewN | apply below_drew1) | exact HB.out)⟩

end Go.Proofs.Ytpbemjdaanlaoaa.Pr
set_option linter.unusedVariables false
set_option linter.unusedSimpArgs false
namespace Go.Proofs.Ytpbemjdaanlaoaa.Pr
open Go.RowKit Go.Proofs.YtpbemjdaanlaoaaW.PrintWords Go.Proofs.YtpbemjdaanlaoaaW.PrintLast Go.Proofs.YtpbemjdaanlaoaaW.PrintMore
open Go.Maps
set_option maxRecDepth 100000

theorem w1_ (j : Nat) (h : j < 1000000) : wrap64 ((j : Int) + 1) = ((j + 1 : Nat) : Int) := by unfold wrap64; omega
theorem copy_loop (l : List (List Int)) (hl : l.length ≤ 1000) (hr : lenL 1000 l) : ∀ d j, l.length - j = d → j ≤ l.length → Ev (fun k => fippleref08_Copy.l0 k l (l.take j) (j : Int)) l := by
  intro d
  induction d with
  | zero =>
    intro j h1 h2
    obtain rfl : j = l.length := by omega
    refine Ev.step (f := fun _ => some l) (fun k => ?_) (Ev.now _)
    simp only [fippleref08_Copy.l0]
    rw [if_neg (by omega), List.take_length]
  | succ d ih =>
    intro j h1 h2
    have hj : j < l.length := by omega
    refine Ev.step (f := fun k => fippleref08_Copy.l0 k l (l.take (j + 1)) ((j + 1 : Nat) : Int)) (fun k => ?_) (ih (j + 1) (by omega) (by omega))
    have hrl := lenL_at hr (j : Int)
    simp only [fippleref08_Copy.l0]
    rw [if_pos (by omega)]
    simp only [Option.bind_some]
    rw [if_pos (by omega), if_pos (by simp; omega), if_pos (by rw [List.length_take]; omega), w1_ j (by omega), List.nil_append, rdL_get l j hj, ← List.take_succ_eq_append_getElem hj]
theorem copy_ev (l : List (List Int)) (hl : l.length ≤ 1000) (hr : lenL 1000 l) : ∃ k, fippleref08_Copy.f k l = some l := by
  have := (copy_loop l hl hr l.length 0 (by omega) (by omega)).rounds
  exact this
theorem copy85 (A0 : Option Addr) (c0 : Nat) (l0 : List (List Int)) (w : World) (hr0 : Kd.C (Kd.slice 3 (Kd.int .i64)) w A0 l0.length l0) (hc0 : l0.length ≤ c0) (hl : l0.length ≤ 1000) (hr : lenL 1000 l0) :
    Calls Try.prog 85 #[.slice A0 l0.length c0] w fun e w' => ∃ v0_ : Value, e = .returned (v0_) ∧ Kd.S (Kd.slice 3 (Kd.int .i64)) 32 w' w.heap.size (fun _ => True) v0_ l0 ∧ Below w.heap.size w w' := by
  obtain ⟨k, hk⟩ := copy_ev l0 hl hr
  exact fippleref08_Copy.calls k A0 c0 l0 l0 w hr0 hc0 hk

section
variable {w w1 : World} {base go n cap : Nat} {ok : Nat → Prop} {rows : List (List Int)}
/-- A number is stored into an element's row. -/
theorem S_elem_put {k : Nat} (h : Kd.S (Kd.slice 3 (Kd.int .i64)) 32 w base ok (.slice (some ⟨go, 0, none⟩) n cap) rows) {oki : Nat → Prop} {gi ni ci : Nat} {row : List Int}
    (hR : Kd.R (Kd.int .i64) 3 w base oki (.slice (some ⟨gi, 0, none⟩) ni ci) row) (hH : Kd.H (Kd.slice 3 (Kd.int .i64)) 32 w base ok (.slice (some ⟨go, 0, none⟩) n cap) rows (k : Int) oki [.slice (some ⟨gi, 0, none⟩) ni ci]) (j : Nat) (x : Int) :
    Kd.S (Kd.slice 3 (Kd.int .i64)) 32 (w.setCell ⟨gi, j, none⟩ (.int .i64 x)) base ok (.slice (some ⟨go, 0, none⟩) n cap) (rows.set k (row.set j x)) := by
  have eo : (Value.slice (some ⟨gi, 0, none⟩) ni ci).ownBlock = some gi := by simp [Value.ownBlock]
  have hg1 := grown_set w gi j (.int .i64 x)
  have hR1 := Kd.R_putn (h1 := fun _ => rfl) hR (j : Int) x
  rw [Int.toNat_natCast] at hR1
  have hS := Kd.H_back (Kd.H_grown hH hg1 (fun q e => hR.1 q (by rw [eo, e]))) (Kd.M_row hR1) (fun _ hq => hq)
  rw [Int.toNat_natCast] at hS
  exact hS
/-- An element's row is cut. -/
theorem S_elem_cut {k : Nat} (h : Kd.S (Kd.slice 3 (Kd.int .i64)) 32 w base ok (.slice (some ⟨go, 0, none⟩) n cap) rows) (hk : k < rows.length) {oki : Nat → Prop} {Ak : Option Addr} {ck : Nat} {row : List Int}
    (hR : Kd.R (Kd.int .i64) 3 w base oki (.slice Ak row.length ck) row) (hoki : ∀ q, oki q → ok q ∧ q ≠ go) (hH : Kd.H (Kd.slice 3 (Kd.int .i64)) 32 w base ok (.slice (some ⟨go, 0, none⟩) n cap) rows (k : Int) oki [.slice Ak row.length ck]) {m : Nat} (hm : m ≤ row.length) :
    w.frozen? ⟨go, k, none⟩ = false ∧ base ≤ go ∧ Kd.S (Kd.slice 3 (Kd.int .i64)) 32 (w.setCell ⟨go, k, none⟩ (.slice Ak m ck)) base ok (.slice (some ⟨go, 0, none⟩) n cap) (rows.set k (row.take m)) := by
  have hnn := (Kd.S_reads' h).1
  have eo : (Value.slice (some ⟨go, 0, none⟩) n cap).ownBlock = some go := by simp [Value.ownBlock]
  obtain ⟨cells, hty⟩ := Kd.S_typed h go eo
  have e0 : (k : Int).toNat * (Kd.slice 3 (Kd.int .i64)).sz + 0 = k := by simp [Kd.slice]
  obtain ⟨hH2, hg2⟩ := Kd.H_seg (seg := [.slice Ak m ck]) (j := 0) hH (by omega) (by omega) (by simp [Kd.slice]) (fun q hq => by rw [List.mem_singleton.1 hq]; rfl)
  rw [e0] at hH2 hg2
  have hR2 := Kd.R_grown (Kd.R_take hR hm) hg2 (fun q hq e => by
    injection e with e
    subst e
    exact (hoki _ hq).2 rfl)
  have hS := Kd.H_back hH2 (Kd.M_row hR2) (fun _ hq => hq)
  rw [Int.toNat_natCast] at hS
  exact ⟨by simp [World.frozen?, hty], Kd.S_base h go eo, hS⟩
end
end Go.Proofs.Ytpbemjdaanlaoaa.Pr
set_option linter.unusedVariables false
set_option linter.unusedSimpArgs false
namespace Go.Proofs.Ytpbemjdaanlaoaa.Pr
open Go.RowKit Go.Proofs.YtpbemjdaanlaoaaW.PrintWords Go.Proofs.YtpbemjdaanlaoaaW.PrintLast Go.Proofs.YtpbemjdaanlaoaaW.PrintMore
attribute [local go_sem] Oper.semAt_some
set_option maxRecDepth 100000

/-- A place of rows. -/
abbrev Pl (rows : List (List Int)) := { p : Int × Int // 0 ≤ p.1 ∧ p.1 < rows.length ∧ 0 ≤ p.2 ∧ p.2 < (rd_L1 rows p.1).length }
def encP {rows : List (List Int)} (x : Pl rows) : Value := .agg #[.int .i64 x.1.1, .int .i64 x.1.2]

set_option maxHeartbeats 2000000 in
theorem places91 (n : Nat) (hn : 1 ≤ n) (ly Bs N go c : Nat) (rows : List (List Int)) (hrl : rows.length ≤ 1000) (hfl : rows.flatten.length ≤ 1000) (J Jx : List (Pl rows) → World → Prop) (W : World) (hJ : AbidesFrom W.heap.size J)
    (hY : ∀ pre (x : Pl rows) W1, J pre W1 → pre.length < 1000 → YieldAt Fence.wide (n - 1) Try.prog ly #[encP x] W1 fun e W' =>
      (e = .returned (.bool true) ∧ J (pre ++ [x]) W' ∧ Below N W1 W') ∨ (e = .returned (.bool false) ∧ Jx (pre ++ [x]) W'))
    (A : Option Addr) (hA : 0 < rows.length → A = some ⟨go, 0, none⟩)
    (hBs : W.cell? ⟨Bs, 0, none⟩ = some (.slice A rows.length c)) (hgo : 0 < rows.length → go < N) (hNW : N ≤ W.heap.size) (hC : ∀ k : Nat, k < rows.length → ∃ Ak ck, W.cell? ⟨go, k, none⟩ = some (.slice Ak (rd_L1 rows (k : Int)).length ck)) (h0 : J [] W) :
    CallsIn Fence.wide n Try.prog 91 #[.func (.yield ly) #[] #[], .pointer (some ⟨Bs, 0, none⟩)] W fun e W' => (∃ v, e = .returned v) ∧
      ((∃ xs : List (Pl rows), (∀ p, p ∈ xs) ∧ J xs W') ∨ (∃ pre, True ∧ Jx pre W')) := by
  have hu68 := Try.underlying68
  have hu90 := Try.underlying90
  have HJ := Lib.hid hJ; have HY := Lib.hid hY; clear hJ hY
  have HC := Lib.hid hC; clear hC
  have HA := Lib.hid hA; clear hA
  have HGO := Lib.hid hgo; clear hgo
  have H0 := Lib.hid h0; clear h0
  have HFL := Lib.hid hfl; have HF := Lib.hid (flat_le rows); have HS := Lib.hid (flat_succ rows); clear hfl
  refine callsIn_of_wp Try.func91 rfl trivial ?_ rfl
  simp only [Try.ntmps91, List.size_toArray, List.length_cons, List.length_nil, Nat.reduceAdd, Nat.reduceSub, Array.replicate_succ, Array.replicate_zero, List.push_toArray, List.append_toArray, List.nil_append, List.cons_append]
  gi_wp2
  gi_loopw [9] (fun i wr => ∃ (k : Nat) (pre : List (Pl rows)), k ≤ rows.length ∧ i = .int .i64 k ∧ pre.length = (flatK rows k).length ∧ Hid (∀ p : Pl rows, p.1.1 < k → p ∈ pre) ∧ Hid (J pre wr) ∧ Hid (Below N W wr)) (fun i _ => rows.length - (intOf i).toNat)
  case atStart =>
    exact ⟨0, [], Nat.zero_le _, rfl, rfl, fun p hp => by have := p.2.1; omega, H0, Below.refl _ _⟩
  case round =>
    obtain ⟨k, pre, hk, rfl, hpl, HP, HJk, HB⟩ := hrel
    by_cases hlt : k < rows.length
    · obtain ⟨Ak, ck, q0⟩ := HC.out k hlt
      have hAe := HA.out (by omega)
      subst hAe
      have q1 : wr.cell? ⟨go, k, none⟩ = some (.slice Ak (rd_L1 rows (k : Int)).length ck) := (HB.out.cell (p := ⟨go, k, none⟩) (HGO.out (by omega))).trans q0
      have hlr : (flatK rows k).length + (rd_L1 rows (k : Int)).length ≤ 1000 := by
        have e1 := HS.out k hlt
        have e2 := HF.out (k + 1)
        rw [e1, List.length_append] at e2
        have := HFL.out
        omega
      clear q0
      gi_wp2
      gi_loopw [16] (fun i wq => ∃ (j : Nat) (pre2 : List (Pl rows)), j ≤ (rd_L1 rows (k : Int)).length ∧ i = .int .i64 j ∧ pre2.length = (flatK rows k).length + j ∧ Hid (∀ p : Pl rows, (p.1.1 < k ∨ (p.1.1 = k ∧ p.1.2 < j)) → p ∈ pre2) ∧ Hid (J pre2 wq) ∧ Hid (Below N W wq)) (fun i _ => (rd_L1 rows (k : Int)).length - (intOf i).toNat)
      case atStart =>
        exact ⟨0, pre, Nat.zero_le _, rfl, by omega, fun p hp => HP.out p (by have := p.2.2.2.1; omega), HJk, HB⟩
      case round =>
        obtain ⟨j, pre2, hj, rfl, hpl2, HP2, HJ2, HB2⟩ := hrel
        by_cases hjl : j < (rd_L1 rows (k : Int)).length
        · obtain ⟨x, hx⟩ : ∃ x : Pl rows, x.1 = ((k : Int), (j : Int)) := ⟨⟨((k : Int), (j : Int)), by simp; omega⟩, rfl⟩
          obtain ⟨fn, tmps, assign, body, hyy, hR⟩ := HY.out pre2 x wr HJ2.out (by omega)
          have hen : encP x = .agg #[.int .i64 (k : Int), .int .i64 (j : Int)] := by unfold encP; rw [hx]
          rw [hen] at hyy
          have HX := Lib.hid hx
          clear hx hen
          gi_wp2
          refine hR.mono ?_
          rintro e W3 (⟨rfl, hJ3, hk3⟩ | ⟨rfl, hJx3⟩)
          · have HJ3 := Lib.hid hJ3; have HK3 := Lib.hid hk3; clear hJ3 hk3
            gi_wp2
            refine ⟨⟨j + 1, pre2 ++ [x], by omega, by go_num, by simp; omega, ?_, HJ3, HB2.out.trans HK3.out⟩, by simp [intOf]; omega⟩
            intro p hp
            by_cases hpx : p.1.1 = (k : Int) ∧ p.1.2 = (j : Int)
            · have : p = x := Subtype.ext (by rw [HX.out]; exact Prod.ext hpx.1 hpx.2)
              rw [this]; simp
            · exact List.mem_append_left _ (HP2.out p (by omega))
          · gi_wp2
            refine bodyPost_ret (results_none rfl _ _ _) rfl ?_
            exact ⟨⟨_, rfl⟩, .inr ⟨_, trivial, hJx3⟩⟩
        · obtain rfl : j = (rd_L1 rows (k : Int)).length := by omega
          have e1 := HS.out k hlt
          have hpl3 : pre2.length = (flatK rows (k + 1)).length := by rw [e1, List.length_append]; exact hpl2
          clear e1
          gi_wp2
          refine ⟨⟨k + 1, pre2, by omega, by go_num, hpl3, ?_, HJ2, HB2⟩, by simp [intOf]; omega⟩
          intro p hp
          refine HP2.out p ?_
          by_cases h : p.1.1 < (k : Int)
          · exact .inl h
          · have he : p.1.1 = (k : Int) := by omega
            refine .inr ⟨he, ?_⟩
            have := p.2.2.2.2
            rw [he] at this
            exact this
    · obtain rfl : k = rows.length := by omega
      gi_wp2
      go_end0
      exact ⟨⟨_, rfl⟩, .inl ⟨pre, fun p => HP.out p p.2.2.1, HJk.out⟩⟩

theorem places80 (A : Option Addr) (c n : Nat) (w : World) :
    Calls Try.prog 80 #[.agg #[.slice A n c]] w fun e w' => e = .returned (.func (.func 91) #[] #[.pointer (some ⟨w.heap.size, 0, none⟩)]) ∧ w.alloc (.cells #[.slice A n c] 68) = w' := by
  go_enter Try.func80, Try.ntmps80
  go_wp2
  go_ret
  exact ⟨rfl, rfl⟩
end Go.Proofs.Ytpbemjdaanlaoaa.Pr
namespace Go
/-! A drawn region that only reads, inside a round of a range over a function. -/
section
variable {F : Fence} {n : Nat} {P : Program} {ops : Array Oper} {md : Region.Mode} {C : World → Prop}

def noDeferB (ops : Array Oper) : Bool := ops.toList.all (fun o => match o.op with | .defer _ => false | _ => true)
theorem noDeferB_spec (h : noDeferB ops = true) {i : Nat} {o : Oper} (ho : ops[i]? = some o) : ∀ c, o.op ≠ .defer c := by
  intro c hc
  unfold noDeferB at h
  rw [List.all_eq_true] at h
  have := h o (by rw [← Array.getElem?_toList] at ho; exact List.mem_of_getElem? ho)
  rw [hc] at this
  cases this

theorem Oper.wpIn_of_quietR {o : Oper} {a : Act} {K : Act → Prop} {K' : Act → World → Prop} {Q' : Exit → Act → World → Prop} {w : World} (hnd : ∀ c, o.op ≠ .defer c) (hw : C w) (h : ∀ a w', C w' → K a → K' a w')
    (ha : o.askedIn F P a C) (hh : o.quietIn F n P a C K) : o.wpIn F n P a w K' Q' := by
  obtain ⟨v, h1, h2⟩ := hh
  have h3 := h1 w hw
  unfold Oper.quietAtIn at h3
  unfold Oper.wpIn
  refine ⟨ha w hw, ?_⟩
  rw [Oper.semAt_eq _ _ _ hnd]
  generalize (execOp a.eval o).run P w = r at *
  cases r with
  | ok x w' =>
    cases x <;> simp only [Oper.quietUponIn] at h3 <;> simp only [Oper.uponIn]
    case value u =>
      obtain ⟨e1, e2⟩ := h3
      rw [e1, e2]
      exact h _ _ hw h2
    case skip =>
      obtain ⟨e1, e2⟩ := h3
      rw [e1, ← e2]
      exact h _ _ hw h2
    case enter f args =>
      obtain ⟨e1, hd, hc⟩ := h3
      rw [e1]
      exact ⟨hd, hc.mono fun e w'' ⟨he, hw''⟩ => by subst he; exact h _ _ hw'' h2⟩
  | halt x w' => simp only [Oper.quietUponIn] at h3

theorem wpOpIn_of_qOpInR {i : Nat} {a : Act} {K : Act → Prop} {K' : Act → World → Prop} {Q' : Exit → Act → World → Prop} {w : World} (hnd : noDeferB ops = true) (hC : C w) (h : ∀ a w', C w' → K a → K' a w')
    (hh : qOpIn F n P ops C i K a) : wpOpIn F n P ops Q' i K' a w := by
  unfold qOpIn at hh
  unfold wpOpIn
  split
  · rename_i ho; simp only [ho] at hh; exact h _ _ hC hh
  · rename_i o ho
    simp only [ho] at hh
    obtain ⟨ha, hh⟩ := hh
    split
    · rename_i hw; simp only [hw, if_true] at hh; exact Oper.wpIn_of_quietR (noDeferB_spec hnd ho) hC h ha hh
    · rename_i hw; simp only [hw] at hh; exact ⟨ha w hC, h _ _ hC hh⟩

theorem wpAnyIn_of_quietR {Q : Act → Prop} {Q' : Exit → Act → World → Prop} (hnd : noDeferB ops = true) (hQ : ∀ a w, C w → Q a → Q' .normal a w) : ∀ (fuel : Nat) (listed : Array Bool) (a : Act) (w : World), C w →
    wpAnyQIn F n P md ops C Q fuel listed a → wpAnyIn F n P md ops Q' fuel listed a w
  | 0, _, _, _, hw, h => ⟨h.1, hQ _ _ hw h.2⟩
  | fuel + 1, _, _, _, hw, h => ⟨fun h0 => hQ _ _ hw (h.1 h0), fun i hi => wpOpIn_of_qOpInR hnd hw (fun a' w' hw' => wpAnyIn_of_quietR hnd hQ fuel _ a' w' hw') (h.2 i hi)⟩

theorem wpIn_region_quietR_lit {id : Nat} {Q : Exit → Act → World → Prop} {a : Act} {w : World} {l : List Oper} (hnd : noDeferB l.toArray = true) (hm : P.follows .mixedOrders = true) (hB : Region.lexB .any l.toArray = true)
    (h : wpQuietIn F n P l.toArray (fun w' => ∃ n, w' = w.drewN n) (fun a' => ∀ w', (∃ n, w' = w.drewN n) → Q .normal a' w') l a) : (Code.region id l.toArray true).wpIn F n P Q a w := by
  simp only [Region.lexB, Bool.and_eq_true] at hB
  refine wpIn_region_any hm (wpAnyIn_of_quietR (C := fun w' => ∃ n, w' = w.drewN n) (Q := fun a' => ∀ w', (∃ n, w' = w.drewN n) → Q .normal a' w') hnd (fun _ w' hw' h => h w' hw') _ _ _ _ ⟨1, rfl⟩ ?_)
  have := wpAnyQIn_lex (F := F) (n := n) (C := fun w' => ∃ n, w' = w.drewN n) (md := .any) hB.1 l.toArray.toList 0 (Array.replicate l.toArray.size false) a (by simp) (by simpa using hB.2) (by simpa using h)
  simpa using this
end
end Go
set_option linter.unusedVariables false
set_option linter.unusedSimpArgs false
namespace Go.Proofs.Ytpbemjdaanlaoaa.Pr
open Go.RowKit Go.Proofs.YtpbemjdaanlaoaaW.PrintWords Go.Proofs.YtpbemjdaanlaoaaW.PrintLast Go.Proofs.YtpbemjdaanlaoaaW.PrintMore
open Go.Maps
attribute [local go_sem] Oper.semAt_some
set_option maxRecDepth 100000

/-- Have rows a shape? -/
def shR (rows : List (List Int)) (k : Nat) : Bool := decide (0 < (rd_L1 rows (k : Int)).length) && (decide (k = 0) || decide ((rd_L1 rows (k : Int)).length ≤ (rd_L1 rows ((k : Int) - 1)).length))
def shB (rows : List (List Int)) : Bool := (List.range rows.length).all (shR rows)
def okPl (rows : List (List Int)) (by_ a b : Int) : Bool := !((decide (0 < b) && decide (rd (rd_L1 rows a) b < rd (rd_L1 rows a) (b - 1) + by_)) || (decide (0 < a) && decide (rd (rd_L1 rows a) b ≤ rd (rd_L1 rows (a - 1)) b)))
def risesB (rows : List (List Int)) (by_ : Int) : Bool := shB rows && (List.range rows.length).all (fun a => (List.range (rd_L1 rows (a : Int)).length).all (fun b => okPl rows by_ (a : Int) (b : Int)))
theorem shB_iff (rows : List (List Int)) : shB rows = true ↔ ∀ k, k < rows.length → shR rows k = true := by simp [shB]
theorem risesB_true {rows : List (List Int)} {by_ : Int} (h1 : shB rows = true) (h2 : ∀ p : Pl rows, okPl rows by_ p.1.1 p.1.2 = true) : risesB rows by_ = true := by
  unfold risesB
  rw [h1, Bool.true_and, List.all_eq_true]
  intro a ha
  rw [List.all_eq_true]
  intro b hb
  simp only [List.mem_range] at ha hb
  exact h2 ⟨((a : Int), (b : Int)), by simp; omega⟩
theorem risesB_false {rows : List (List Int)} {by_ : Int} (p : Pl rows) (h : okPl rows by_ p.1.1 p.1.2 = false) : risesB rows by_ = false := by
  cases hh : risesB rows by_
  · rfl
  · exfalso
    unfold risesB at hh
    simp only [Bool.and_eq_true, List.all_eq_true, List.mem_range] at hh
    obtain ⟨⟨a, b⟩, h0, h1, h2, h3⟩ := p
    simp only at h0 h1 h2 h3 h
    obtain ⟨n, rfl⟩ := Int.eq_ofNat_of_zero_le h0
    obtain ⟨m, rfl⟩ := Int.eq_ofNat_of_zero_le h2
    have := hh.2 n (by omega) m (by omega)
    rw [h] at this; cases this
theorem sh_false {rows : List (List Int)} {by_ : Int} {k : Nat} (hk : k < rows.length) (h : shR rows k = false) : risesB rows by_ = false := by
  cases hh : risesB rows by_
  · rfl
  · unfold risesB at hh
    have := (shB_iff rows).1 (by rw [Bool.and_eq_true] at hh; exact hh.1) k hk
    rw [h] at this; cases this

theorem look2 {W : World} {bm n : Nat} {D : DataW Unit} {f : Int → Int → Option Int} (ho : OwnP W bm n D) (hP : HasP D f) {a b : Int} (ha : wfi a) (hb : wfi b) :
    (Instr.lookup 69 (.map (some bm)) (.agg #[.int .i64 a, .int .i64 b]) true).run Try.prog W = .ok (.tuple #[.int .i64 ((f a b).getD 0), .bool (f a b).isSome]) W := by
  obtain ⟨v, ps, hrun, hv⟩ := ho.look_ok law90 Try.underlying69 (zero3 W) (zd := .lit (.int .i64 0)) (zp := []) (plainElem_int (q := .i64) (H := Unit) Try.underlying3 (by decide)) (kp_key ha hb)
  obtain ⟨h1, h2⟩ := hP a b ha hb
  rw [h2] at hv
  rw [hrun, h1]
  cases hf : f a b with
  | none =>
    rw [hf] at hv
    obtain ⟨c, rfl, e, _⟩ := plainElem_int_inv Try.underlying3 hv
    injection e with e _
    injection e with e
    injection e with _ e
    rw [e]; rfl
  | some m =>
    rw [hf] at hv
    obtain ⟨c, rfl, e, _⟩ := plainElem_int_inv Try.underlying3 hv
    injection e with e _
    injection e with e
    injection e with _ e
    rw [e]; rfl
theorem look1 {W : World} {bm n : Nat} {D : DataW Unit} {f : Int → Int → Option Int} (ho : OwnP W bm n D) (hP : HasP D f) {a b : Int} (ha : wfi a) (hb : wfi b) :
    (Instr.lookup 69 (.map (some bm)) (.agg #[.int .i64 a, .int .i64 b]) false).run Try.prog W = .ok (.int .i64 ((f a b).getD 0)) W := by
  obtain ⟨x, hrun, hat, _⟩ := ho.lookup_int law90 Try.underlying69 Try.underlying3 (zero3 _) (kp_key ha hb)
  obtain ⟨h1, h2⟩ := hP a b ha hb
  rw [h2] at hat
  rw [hrun]
  cases hf : f a b with
  | none =>
    rw [hf] at hat
    injection hat with hat
    injection hat with _ hat
    rw [← hat]; rfl
  | some m =>
    rw [hf] at hat
    injection hat with hat
    injection hat with _ hat
    rw [← hat]; rfl
theorem plF_in (rows : List (List Int)) {a b : Int} (h : 0 ≤ a ∧ 0 ≤ b ∧ a < rows.length ∧ b < (rd_L1 rows a).length) : plF rows rows.length 0 a b = some (rd (rd_L1 rows a) b) := if_pos ⟨h.1, h.2.1, .inl h.2.2⟩
theorem plF_out (rows : List (List Int)) {a b : Int} (h : a < 0 ∨ b < 0) : plF rows rows.length 0 a b = none := if_neg (by omega)

def riseI (rows : List (List Int)) (by_ : Int) (pre : List (Pl rows)) : Prop := ∀ p ∈ pre, okPl rows by_ p.1.1 p.1.2 = true
def riseX (rows : List (List Int)) (by_ : Int) (pre : List (Pl rows)) : Prop := ∃ p ∈ pre, okPl rows by_ p.1.1 p.1.2 = false
theorem keeps_drewN (W : World) (m B : Nat) : KeepsFrom B W (W.drewN m) := ⟨Nat.le_refl _, fun _ _ _ h _ => h⟩
set_option maxHeartbeats 4000000 in
theorem rises44 (base g bm n : Nat) (D : DataW Unit) (v : Value) (rows : List (List Int)) (by_ : Int) (w : World) (hSt : StandAt w base g bm n D v rows) (hP : HasP D (plF rows rows.length 0)) (hrl : rows.length ≤ 1000) (hfl : rows.flatten.length ≤ 1000)
    (hby : 0 ≤ by_ ∧ by_ ≤ 1) (hnum : ∀ row ∈ rows, ∀ x ∈ row, -1000000 ≤ x ∧ x ≤ 1000000) :
    Calls Try.prog 44 #[.pointer (some ⟨g, 0, none⟩), .int .i64 by_] w fun e w' => e = .returned (.bool (risesB rows by_)) ∧ Below w.heap.size w w' := by
  have hu69 := Try.underlying69
  have hu71 := Try.underlying71
  have hu68 := Try.underlying68
  have hu90 := Try.underlying90
  obtain ⟨cv, cap, rfl⟩ := Kd.S_slice hSt.row
  obtain ⟨hc0, hc1, _⟩ := hSt.hv
  have hC := (Kd.S_reads' hSt.row).2.2
  have HSt := Lib.hid hSt; have HP := Lib.hid hP; have HN := Lib.hid hnum; have HC := Lib.hid hC
  have hgs := blk_lt hSt.blk
  clear hSt hP hnum hC
  refine (callsIn_wide (n := 4)).1 ?_
  refine callsIn_of_wp_marks Try.func44 rfl trivial ?_ rfl
  simp only [Try.ntmps44, List.size_toArray, List.length_cons, List.length_nil, Nat.reduceAdd, Nat.reduceSub, Array.replicate_succ, Array.replicate_zero, List.push_toArray, List.append_toArray, List.nil_append, List.cons_append]
  obtain ⟨W0, hW0⟩ : ∃ W0 : World, W0 = ((w.alloc (.cells #[.pointer (some ⟨g, 0, none⟩)] 55)).alloc (.cells #[.int .i64 by_] 3)).alloc (.cells #[.bool false] 4) := ⟨_, rfl⟩
  have hB0 : Below w.heap.size w W0 := by rw [hW0]; exact (((Below.refl _ w).alloc (Nat.le_refl _) _).alloc (by simp) _).alloc (by simp; omega) _
  have b0 : Boxed W0 w.heap.size 55 (.pointer (some ⟨g, 0, none⟩)) := by rw [hW0]; exact blk_alloc (blk_alloc (heap_alloc_new _ _) _) _
  have b1 : Boxed W0 (w.heap.size + 1) 3 (.int .i64 by_) := by rw [hW0]; exact blk_alloc (heap_alloc_at (by simp)) _
  have b2 : Boxed W0 (w.heap.size + 1 + 1) 4 (.bool false) := by rw [hW0]; exact heap_alloc_at (by simp)
  have hs0 : W0.heap.size = w.heap.size + 1 + 1 + 1 := by rw [hW0]; simp
  have k0 := b0.cell; have k1 := b1.cell; have k2 := b2.cell; have f2 := b2.frozen
  have d0 := pw_cell_below hB0 hc0
  have d1 := pw_cell_below hB0 hc1
  have HB0 := Lib.hid hB0; have HB_0 := Lib.hid b0; have HB_1 := Lib.hid b1; have HB_2 := Lib.hid b2; have HS0 := Lib.hid hs0
  clear hB0 b0 b1 b2 hs0
  have hca : ∀ o1 o2 o3, (((w.alloc o1).alloc o2).alloc o3).cell? ⟨g, 0, none⟩ = some (.slice cv rows.length cap) := fun o1 o2 o3 => cell_al o3 (cell_al o2 (cell_al o1 hc0))
  gi_wp2
  gi_loopw [19] (fun i wr => ∃ (k : Nat), k ≤ rows.length ∧ i = .int .i64 k ∧ W0 = wr ∧ Hid (∀ j, j < k → shR rows j = true)) (fun i _ => rows.length - (intOf i).toNat)
  case atStart => exact ⟨0, Nat.zero_le _, rfl, hW0, fun j hj => by omega⟩
  case round =>
    obtain ⟨k, hk, rfl, rfl, HSH⟩ := hrel
    clear hW0 hca hc0 hc1
    by_cases hlt : k < rows.length
    · obtain ⟨ad, A1, c1, rfl, q1w, q2, _⟩ := at_L1 HC.out k (by omega) (by omega)
      simp only [Int.toNat_natCast] at q1w
      have q1 := pw_cell_below HB0.out q1w
      clear q1w q2
      have hsh : shR rows k = (decide (0 < (rd_L1 rows (k : Int)).length) && (decide (k = 0) || decide ((rd_L1 rows (k : Int)).length ≤ (rd_L1 rows ((k : Int) - 1)).length))) := rfl
      have HSHK := Lib.hid hsh; clear hsh
      have hbs : Below w.heap.size w (W0.setCell ⟨w.heap.size + 1 + 1, 0, none⟩ (.bool false)) := HB0.out.setCell (p := ⟨w.heap.size + 1 + 1, 0, none⟩) (by simp; omega) _
      have HBS := Lib.hid hbs; clear hbs
      have hres : (W0.setCell ⟨w.heap.size + 1 + 1, 0, none⟩ (.bool false)).cell? ⟨w.heap.size + 1 + 1, 0, none⟩ = some (.bool false) := by simp [go_sem, k2]
      have HRES := Lib.hid hres; clear hres
      by_cases h1 : (rd_L1 rows (k : Int)).length = 0
      · have hf : shR rows k = false := by rw [HSHK.out, h1]; simp
        have HF1 := Lib.hid hf; clear hf
        have h1b : ((((rd_L1 rows (k : Int)).length : Nat) : Int) == 0) = true := by simp [h1]
        gi_wp2
        all_goals first
          | (have hr := HRES.out; exact ⟨.bool false, by simp [results, Try.f44, go_sem, hr], by rw [sh_false hlt HF1.out], HBS.out⟩)
          | (exfalso; rename_i hb1 hb2; simp [undef] at hb1; done)
      · have h1b : ((((rd_L1 rows (k : Int)).length : Nat) : Int) == 0) = false := beq_eq_false_iff_ne.2 (by omega)
        by_cases h2 : k = 0
        · have h2' : ¬ ((k : Int) > 0) := by omega
          have hf : shR rows k = true := by rw [HSHK.out]; simp; omega
          have HF1 := Lib.hid hf; clear hf h2
          gi_wp2
          refine ⟨⟨k + 1, by omega, by go_num, trivial, ?_⟩, by simp [intOf]; omega⟩
          intro j hj
          by_cases h : j = k
          · rw [h]; exact HF1.out
          · exact HSH.out j (by omega)
        · obtain ⟨_, A2, c2, e2, q3w, _, _⟩ := at_L1 HC.out ((k - 1 : Nat) : Int) (by omega) (by omega)
          cases e2
          simp only [Int.toNat_natCast] at q3w
          have q3 := pw_cell_below HB0.out q3w
          have e3 : wrap64 ((k : Int) - 1) = ((k - 1 : Nat) : Int) := by unfold wrap64; omega
          have e4 : (k : Int) - 1 = ((k - 1 : Nat) : Int) := by omega
          have E4 := Lib.hid e4; clear e4 q3w
          have h2' : (0 : Int) < (k : Int) := by omega
          by_cases h3 : (rd_L1 rows (k : Int)).length ≤ (rd_L1 rows ((k - 1 : Nat) : Int)).length
          · have hf : shR rows k = true := by rw [HSHK.out, E4.out]; simp; omega
            have HF1 := Lib.hid hf; clear hf
            have HSH1 : Hid (∀ j, j < k + 1 → shR rows j = true) := by
              intro j hj
              by_cases h : j = k
              · rw [h]; exact HF1.out
              · exact HSH.out j (by omega)
            gi_wp2
            all_goals first
              | exact ⟨⟨k + 1, by omega, by go_num, trivial, HSH1⟩, by simp [intOf]; omega⟩
          · have hf : shR rows k = false := by rw [HSHK.out, E4.out]; simp; omega
            have HF1 := Lib.hid hf; clear hf
            gi_wp2
            have hr := HRES.out
            refine ⟨.bool false, by simp [results, Try.f44, go_sem, hr], by rw [sh_false hlt HF1.out], HBS.out⟩
    · obtain rfl : k = rows.length := by omega
      gi_wp2_with (refine ⟨trivial, ?_⟩; gi_at_call 80; refine (callsIn_wide.2 (places80 cv cap rows.length _)).mono ?_; rintro e w2 ⟨rfl, rfl⟩)
      have hB1 : Below w.heap.size w (W0.alloc (.cells #[.slice cv rows.length cap] 68)) := HB0.out.alloc HB0.out.size _
      have g0 := (HB_0.out).alloc (.cells #[.slice cv rows.length cap] 68)
      have g1 := (HB_1.out).alloc (.cells #[.slice cv rows.length cap] 68)
      have g2 := (HB_2.out).alloc (.cells #[.slice cv rows.length cap] 68)
      have gs := cell_new_l W0 (.slice cv rows.length cap) 68
      have hz1 : (W0.alloc (.cells #[.slice cv rows.length cap] 68)).heap.size = w.heap.size + 1 + 1 + 1 + 1 := by have := HS0.out; simp; omega
      have hz0 := HS0.out
      clear k0 k1 k2 f2 d0 d1
      generalize (W0.alloc (.cells #[.slice cv rows.length cap] 68)) = W1 at *
      rw [hz0] at gs ⊢
      clear hz0
      refine wpIn_rangeFunc_ownH rfl (by omega) (gf := 91) (lb := #[.pointer (some ⟨w.heap.size + 1 + 1 + 1, 0, none⟩)]) rfl trivial (enters_of Try.func91 (by kernel_rfl) rfl)
        (α := Pl rows) (encs := fun x => #[.agg #[.int .i64 x.1.1, .int .i64 x.1.2]]) (Kp := Below w.heap.size) (S := fun xs => ∀ p, p ∈ xs) (Sp := fun _ => True) (N := 1000) (w0 := W1)
        ?seq belowK_t (belowK_b (by omega)) (Below.refl _ _) (fun _ => rfl)
        (fun pre W => ((riseI rows by_ pre ∧ Boxed W w.heap.size 55 (.pointer (some ⟨g, 0, none⟩))) ∧ (Boxed W (w.heap.size + 1) 3 (.int .i64 by_) ∧ Boxed W (w.heap.size + 1 + 1) 4 (.bool false))) ∧ Below w.heap.size w W)
        (fun c pre W => ((c = .ret ∧ riseX rows by_ pre) ∧ Boxed W (w.heap.size + 1 + 1) 4 (.bool false)) ∧ Below w.heap.size w W)
        (OwnFrom.and (OwnFrom.and (OwnFrom.and (ownFrom_pure _ _) (Own.from (boxed_own _ _ _) _)) (OwnFrom.and (Own.from (boxed_own _ _ _) _) (Own.from (boxed_own _ _ _) _))) (ownFrom_below (Nat.le_refl _) (by omega)))
        (fun c => OwnFrom.and (OwnFrom.and (ownFrom_pure _ _) (Own.from (boxed_own _ _ _) _)) (ownFrom_below (Nat.le_refl _) (by omega)))
        ⟨⟨⟨fun p hp => (List.not_mem_nil hp).elim, g0⟩, g1, g2⟩, hB1⟩
        (fun x a' W => ∃ Bx, w.heap.size + 1 + 1 < Bx ∧ W.heap[Bx]? = some (.cells #[.int .i64 x.1.1, .int .i64 x.1.2] 90) ∧ a' = { tmps := #[Value.pointer (some ⟨g, 0, none⟩), Value.int .i64 by_, Value.pointer (some ⟨w.heap.size, 0, none⟩), Value.pointer (some ⟨w.heap.size + 1, 0, none⟩), Value.pointer (some ⟨w.heap.size + 1 + 1, 0, none⟩), u5, u6, Value.pointer (some ⟨Bx, 0, none⟩), undef, undef, undef, undef, undef, Value.pointer (some ⟨g, 0, none⟩), Value.pointer (some ⟨g, 0, none⟩), Value.pointer (some ⟨g, 0, none⟩), Value.pointer (some ⟨g, 0, none⟩), Value.slice cv rows.length cap, Value.int .i64 (rows.length : Int), Value.int .i64 (rows.length : Int), Value.bool false, u21, u22, u23, u24, u25, u26, u27, u28, u29, u30, u31, u32, u33, u34, u35, u36, u37, u38, u39, u40, u41, u42, u43, u44, u45, u46, Value.pointer (some ⟨g, 0, none⟩), Value.pointer (some ⟨g, 0, none⟩), Value.pointer (some ⟨g, 0, none⟩), Value.agg #[Value.slice cv rows.length cap], Value.func (.func 91) #[] #[.pointer (some ⟨w.heap.size + 1 + 1 + 1, 0, none⟩)], Value.agg #[.int .i64 x.1.1, .int .i64 x.1.2], undef, undef, undef, undef, undef, undef, undef, undef, undef, undef, undef, undef, undef, undef, undef, undef, undef, undef, undef, undef, undef, undef, undef, undef, undef, undef, undef, undef, undef, undef, undef, undef, undef, undef, undef, undef, undef, undef, undef, undef, undef, undef, undef, undef, undef, undef, undef, undef, undef, undef], defers := [] })
        (fun x a' _ X Y row hs hg hr => by obtain ⟨Bx, e1, e2, e3⟩ := hs; exact ⟨Bx, e1, (hg.block Bx (blk_lt e2) (fun e' => by obtain ⟨o, ho, hc⟩ := (hr Bx e'.symm).2; rw [e2] at ho; cases ho; cases hc)).trans e2, e3⟩)
        ?assign ?body ?done ?stop
      case seq =>
        intro ly J Jx W hB hJ _ hY h0
        have hgo : 0 < rows.length → ∃ go, cv = some ⟨go, 0, none⟩ ∧ go < w.heap.size := fun h => by
          obtain ⟨go, cap2, e, _, hlt, _⟩ := Kd.S_form HSt.out.row h
          injection e with e _ _
          exact ⟨go, e, hlt⟩
        obtain ⟨go, hgo1, hgo2⟩ : ∃ go, (0 < rows.length → cv = some ⟨go, 0, none⟩) ∧ (0 < rows.length → go < w.heap.size) := by
          by_cases h : 0 < rows.length
          · obtain ⟨go, e1, e2⟩ := hgo h
            exact ⟨go, fun _ => e1, fun _ => e2⟩
          · exact ⟨0, fun h' => absurd h' h, fun h' => absurd h' h⟩
        refine (places91 3 (by omega) ly (w.heap.size + 1 + 1 + 1) w.heap.size go cap rows hrl hfl J Jx W hJ hY cv hgo1 (pw_cell_below hB gs.1) hgo2 (by have := hB.size; omega) (fun k hk => ?_) h0).mono ?_
        · obtain ⟨ad, A1, c1, e, q, _, _⟩ := at_L1 HC.out (k : Int) (by omega) (by omega)
          rw [hgo1 (by omega)] at e
          injection e with e
          subst e
          simp only [Int.toNat_natCast] at q
          refine ⟨A1, c1, ?_⟩
          have q2 := pw_cell_below hB (pw_cell_below hB1 q)
          have e9 : (⟨go, 0, none⟩ : Addr).add k = ⟨go, k, none⟩ := by unfold Addr.add; split <;> simp_all
          rw [e9] at q2
          exact q2
        · rintro e W' ⟨h1, h2⟩
          exact ⟨h1, h2⟩
      case assign =>
        rintro l pre x W K ⟨⟨⟨hp, c0⟩, c1, c2⟩, hB⟩ hK
        gi_wp2
        exact hK _ _ ((KeepsOthers.alloc _ _).from _) ((Below.refl _ W).alloc hB.size _) ⟨⟨⟨hp, c0.alloc _⟩, c1.alloc _, c2.alloc _⟩, hB.alloc hB.size _⟩ ⟨W.heap.size, c2.lt, heap_alloc_new _ _, rfl⟩
      case body =>
        rintro l pre x a' W hl _ ⟨⟨⟨hp, c0⟩, c1, c2⟩, hB⟩ ⟨Bx, hBx, bX, rfl⟩ hlt
        obtain ⟨⟨a, b⟩, hpl⟩ := x
        have HPL := Lib.hid hpl
        simp only at bX ⊢
        obtain ⟨ha0, ha1, hb0, hb1⟩ := hpl
        simp only at ha0 ha1 hb0 hb1
        have st := HSt.out.below hB
        obtain ⟨s0, s1, _⟩ := st.hv
        have k0 := c0.cell; have k1 := c1.cell; have k2 := c2.cell; have f2 := c2.frozen
        have x0 : W.cell? ⟨Bx, 0, none⟩ = some (.int .i64 a) := by simp [World.cell?, bX]
        have x1 : W.cell? ⟨Bx, 1, none⟩ = some (.int .i64 b) := by simp [World.cell?, bX]
        have hlen1 : (rd_L1 rows a).length ≤ 1000 := by
          obtain ⟨m, rfl⟩ := Int.eq_ofNat_of_zero_le ha0
          have e1 := flat_succ rows m (by omega)
          have e2 := flat_le rows (m + 1)
          rw [e1, List.length_append] at e2
          omega
        have wa : wfi a := wfi_of (by omega)
        have wb : wfi b := wfi_of (by omega)
        have wa1 : wfi (a - 1) := wfi_of (by omega)
        have wb1 : wfi (b - 1) := wfi_of (by omega)
        have e1 : wrap64 (b - 1) = b - 1 := by unfold wrap64; omega
        have e2 : wrap64 (a - 1) = a - 1 := by unfold wrap64; omega
        have e1' : IntKind.i64.wrap (b - 1) = b - 1 := (IntWalk.i64_left _).trans e1
        have e2' : IntKind.i64.wrap (a - 1) = a - 1 := (IntWalk.i64_left _).trans e2
        have lk1 := fun m => look2 (W := W.drewN m) (ownsMap_below st.own (pw_below_drewN (Below.refl _ _) m)) HP.out wa wb1
        have lk2 := fun m => look2 (W := W.drewN m) (ownsMap_below st.own (pw_below_drewN (Below.refl _ _) m)) HP.out wa1 wb
        have lk3 := fun m => look1 (W := W.drewN m) (ownsMap_below st.own (pw_below_drewN (Below.refl _ _) m)) HP.out wa wb
        simp only [plF_in rows ⟨ha0, hb0, ha1, hb1⟩] at lk3
        have HK2 := Lib.hid k2; have HF2 := Lib.hid f2; have HPP := Lib.hid hp; have HBB := Lib.hid hB
        have HC_0 := Lib.hid c0; have HC_1 := Lib.hid c1; have HC_2 := Lib.hid c2
        clear st wa wb wa1 wb1 k2 f2 hp hB c0 c1 c2
        obtain ⟨o1, ho1⟩ : ∃ o, o = plF rows rows.length 0 a (b - 1) := ⟨_, rfl⟩
        obtain ⟨o2, ho2⟩ : ∃ o, o = plF rows rows.length 0 (a - 1) b := ⟨_, rfl⟩
        simp only [← ho1] at lk1
        simp only [← ho2] at lk2
        have HO1 := Lib.hid ho1; have HO2 := Lib.hid ho2
        clear ho1 ho2
        gi_wp2
        refine wpIn_region_quietR_lit (by kernel_rfl) (by kernel_rfl) (by kernel_rfl) ?_
        repeat (gi_big_quiet_step (fail))
        refine wpQuietIn_nil ?_
        intro _ hw'
        obtain ⟨nq, hw''⟩ := hw'
        subst hw''
        generalize nq = nqa

        gi_wp2
        refine wpIn_region_quietR_lit (by kernel_rfl) (by kernel_rfl) (by kernel_rfl) ?_
        repeat (gi_big_quiet_step (fail))
        refine wpQuietIn_nil ?_
        intro _ hw'
        obtain ⟨nq, hw''⟩ := hw'
        subst hw''
        generalize nq = nqb
        gi_wp2
        refine wpIn_region_quietR_lit (by kernel_rfl) (by kernel_rfl) (by kernel_rfl) ?_
        repeat (gi_big_quiet_step (fail))
        refine wpQuietIn_nil ?_
        intro _ hw'
        obtain ⟨nq, hw''⟩ := hw'
        subst hw''
        clear lk1 lk2 lk3 e1 e2 e1' e2' x0 x1 s0 s1
        have hok : okPl rows by_ a b = !((decide (0 < b) && decide (rd (rd_L1 rows a) b < rd (rd_L1 rows a) (b - 1) + by_)) || (decide (0 < a) && decide (rd (rd_L1 rows a) b ≤ rd (rd_L1 rows (a - 1)) b))) := rfl
        have hrd : ∀ a' b' : Int, 0 ≤ a' ∧ a' < rows.length → -1000000 ≤ rd (rd_L1 rows a') b' ∧ rd (rd_L1 rows a') b' ≤ 1000000 := by
          intro a' b' h
          have hm : rd_L1 rows a' ∈ rows := by unfold rd_L1; rw [List.getD_eq_getElem?_getD, List.getElem?_eq_getElem (show a'.toNat < rows.length by omega)]; exact List.getElem_mem _
          by_cases hb : b'.toNat < (rd_L1 rows a').length
          · exact HN.out _ hm _ (by unfold rd; rw [List.getD_eq_getElem?_getD, List.getElem?_eq_getElem hb]; exact List.getElem_mem _)
          · unfold rd; rw [List.getD_eq_getElem?_getD, List.getElem?_eq_none (by omega)]; simp
        have b1 := hrd a b ⟨ha0, ha1⟩
        have b2 := hrd a (b - 1) ⟨ha0, ha1⟩
        have b3 : 0 < a → -1000000 ≤ rd (rd_L1 rows (a - 1)) b ∧ rd (rd_L1 rows (a - 1)) b ≤ 1000000 := fun h => hrd (a - 1) b ⟨by omega, by omega⟩
        have h01 : o1 = if 0 < b then some (rd (rd_L1 rows a) (b - 1)) else none := by
          rw [HO1.out]
          split
          · exact plF_in rows (by omega)
          · exact plF_out rows (by omega)
        have h02 : o2 = if 0 < a then some (rd (rd_L1 rows (a - 1)) b) else none := by
          rw [HO2.out]
          split
          · rename_i h
            have hs := HSH.out a.toNat (by omega)
            unfold shR at hs
            rw [show ((a.toNat : Nat) : Int) = a by omega] at hs
            simp only [Bool.and_eq_true, Bool.or_eq_true, decide_eq_true_eq] at hs
            exact plF_in rows (by omega)
          · exact plF_out rows (by omega)
        clear HO1 HO2 hrd
        generalize hnn : rd (rd_L1 rows a) b = nn at *
        generalize hLL : rd (rd_L1 rows a) (b - 1) = LL at *
        generalize hUU : rd (rd_L1 rows (a - 1)) b = UU at *
        have HOK := Lib.hid hok; clear hok hnn hLL hUU
        rw [World.drewN_drewN, World.drewN_drewN]
        generalize nqa + (nqb + nq) = mm
        have KF : Hid (∀ B, KeepsFrom B W (W.drewN mm)) := Lib.hid (keeps_drewN W mm)
        have KB : Hid (Below w.heap.size W (W.drewN mm)) := Lib.hid (pw_below_drewN (Below.refl _ _) mm)
        have HB3 : Hid (Below w.heap.size w (W.drewN mm)) := Lib.hid (pw_below_drewN HBB.out mm)
        have HC_0 : Hid (Boxed (W.drewN mm) w.heap.size 55 (.pointer (some ⟨g, 0, none⟩))) := HC_0
        have HC_1 : Hid (Boxed (W.drewN mm) (w.heap.size + 1) 3 (.int .i64 by_)) := HC_1
        have HC_2 : Hid (Boxed (W.drewN mm) (w.heap.size + 1 + 1) 4 (.bool false)) := HC_2
        have HK2 : Hid ((W.drewN mm).cell? ⟨w.heap.size + 1 + 1, 0, none⟩ = some (.bool false)) := HK2
        have HF2 : Hid ((W.drewN mm).frozen? ⟨w.heap.size + 1 + 1, 0, none⟩ = false) := HF2
        have k1 : (W.drewN mm).cell? ⟨w.heap.size + 1, 0, none⟩ = some (.int .i64 by_) := k1
        generalize W.drewN mm = W3 at *
        by_cases hb : 0 < b
        · rw [if_pos hb] at h01; subst h01
          have ew : wrap64 (LL + by_) = LL + by_ := by unfold wrap64; omega
          by_cases ha : 0 < a
          · rw [if_pos ha] at h02; subst h02
            have b3' := b3 ha
            by_cases t1 : nn < LL + by_
            · have HFIN : Hid (okPl rows by_ a b = false) := Lib.hid (by rw [HOK.out]; simp; omega)
              have k2 := HK2.out; have f2 := HF2.out
              clear b1 b2 b3 hby hlen1
              gi_wp2
              all_goals first
                | exact ⟨(KF.out _).trans ((KeepsOthers.setCell _ _ _).from _), ⟨⟨rfl, _, List.mem_append.2 (.inr (List.mem_singleton.2 rfl)), HFIN.out⟩, HC_2.out.set _⟩, HB3.out.setCell (p := ⟨w.heap.size + 1 + 1, 0, none⟩) (by simp; omega) _⟩
                | exact ⟨KF.out _, KB.out, ⟨⟨fun p hp => (List.mem_append.1 hp).elim (HPP.out p) (fun e => by rw [List.mem_singleton.1 e]; exact HFIN.out), HC_0.out⟩, HC_1.out, HC_2.out⟩, HB3.out⟩
            · by_cases t2 : nn ≤ UU
              · have HFIN : Hid (okPl rows by_ a b = false) := Lib.hid (by rw [HOK.out]; simp; omega)
                have k2 := HK2.out; have f2 := HF2.out
                clear b1 b2 b3 hby hlen1
                gi_wp2
                all_goals first
                  | exact ⟨(KF.out _).trans ((KeepsOthers.setCell _ _ _).from _), ⟨⟨rfl, _, List.mem_append.2 (.inr (List.mem_singleton.2 rfl)), HFIN.out⟩, HC_2.out.set _⟩, HB3.out.setCell (p := ⟨w.heap.size + 1 + 1, 0, none⟩) (by simp; omega) _⟩
                  | exact ⟨KF.out _, KB.out, ⟨⟨fun p hp => (List.mem_append.1 hp).elim (HPP.out p) (fun e => by rw [List.mem_singleton.1 e]; exact HFIN.out), HC_0.out⟩, HC_1.out, HC_2.out⟩, HB3.out⟩
              · have HFIN : Hid (okPl rows by_ a b = true) := Lib.hid (by rw [HOK.out]; simp; omega)
                have k2 := HK2.out; have f2 := HF2.out
                clear b1 b2 b3 hby hlen1
                gi_wp2
                all_goals first
                  | exact ⟨(KF.out _).trans ((KeepsOthers.setCell _ _ _).from _), ⟨⟨rfl, _, List.mem_append.2 (.inr (List.mem_singleton.2 rfl)), HFIN.out⟩, HC_2.out.set _⟩, HB3.out.setCell (p := ⟨w.heap.size + 1 + 1, 0, none⟩) (by simp; omega) _⟩
                  | exact ⟨KF.out _, KB.out, ⟨⟨fun p hp => (List.mem_append.1 hp).elim (HPP.out p) (fun e => by rw [List.mem_singleton.1 e]; exact HFIN.out), HC_0.out⟩, HC_1.out, HC_2.out⟩, HB3.out⟩
          · rw [if_neg ha] at h02; subst h02
            by_cases t1 : nn < LL + by_
            · have HFIN : Hid (okPl rows by_ a b = false) := Lib.hid (by rw [HOK.out]; simp; omega)
              have k2 := HK2.out; have f2 := HF2.out
              clear b1 b2 b3 hby hlen1
              gi_wp2
              all_goals first
                | exact ⟨(KF.out _).trans ((KeepsOthers.setCell _ _ _).from _), ⟨⟨rfl, _, List.mem_append.2 (.inr (List.mem_singleton.2 rfl)), HFIN.out⟩, HC_2.out.set _⟩, HB3.out.setCell (p := ⟨w.heap.size + 1 + 1, 0, none⟩) (by simp; omega) _⟩
                | exact ⟨KF.out _, KB.out, ⟨⟨fun p hp => (List.mem_append.1 hp).elim (HPP.out p) (fun e => by rw [List.mem_singleton.1 e]; exact HFIN.out), HC_0.out⟩, HC_1.out, HC_2.out⟩, HB3.out⟩
            · have HFIN : Hid (okPl rows by_ a b = true) := Lib.hid (by rw [HOK.out]; simp; omega)
              have k2 := HK2.out; have f2 := HF2.out
              clear b1 b2 b3 hby hlen1
              gi_wp2
              all_goals first
                | exact ⟨(KF.out _).trans ((KeepsOthers.setCell _ _ _).from _), ⟨⟨rfl, _, List.mem_append.2 (.inr (List.mem_singleton.2 rfl)), HFIN.out⟩, HC_2.out.set _⟩, HB3.out.setCell (p := ⟨w.heap.size + 1 + 1, 0, none⟩) (by simp; omega) _⟩
                | exact ⟨KF.out _, KB.out, ⟨⟨fun p hp => (List.mem_append.1 hp).elim (HPP.out p) (fun e => by rw [List.mem_singleton.1 e]; exact HFIN.out), HC_0.out⟩, HC_1.out, HC_2.out⟩, HB3.out⟩
        · rw [if_neg hb] at h01; subst h01
          by_cases ha : 0 < a
          · rw [if_pos ha] at h02; subst h02
            have b3' := b3 ha
            by_cases t2 : nn ≤ UU
            · have HFIN : Hid (okPl rows by_ a b = false) := Lib.hid (by rw [HOK.out]; simp; omega)
              have k2 := HK2.out; have f2 := HF2.out
              clear b1 b2 b3 hby hlen1
              gi_wp2
              all_goals first
                | exact ⟨(KF.out _).trans ((KeepsOthers.setCell _ _ _).from _), ⟨⟨rfl, _, List.mem_append.2 (.inr (List.mem_singleton.2 rfl)), HFIN.out⟩, HC_2.out.set _⟩, HB3.out.setCell (p := ⟨w.heap.size + 1 + 1, 0, none⟩) (by simp; omega) _⟩
                | exact ⟨KF.out _, KB.out, ⟨⟨fun p hp => (List.mem_append.1 hp).elim (HPP.out p) (fun e => by rw [List.mem_singleton.1 e]; exact HFIN.out), HC_0.out⟩, HC_1.out, HC_2.out⟩, HB3.out⟩
            · have HFIN : Hid (okPl rows by_ a b = true) := Lib.hid (by rw [HOK.out]; simp; omega)
              have k2 := HK2.out; have f2 := HF2.out
              clear b1 b2 b3 hby hlen1
              gi_wp2
              all_goals first
                | exact ⟨(KF.out _).trans ((KeepsOthers.setCell _ _ _).from _), ⟨⟨rfl, _, List.mem_append.2 (.inr (List.mem_singleton.2 rfl)), HFIN.out⟩, HC_2.out.set _⟩, HB3.out.setCell (p := ⟨w.heap.size + 1 + 1, 0, none⟩) (by simp; omega) _⟩
                | exact ⟨KF.out _, KB.out, ⟨⟨fun p hp => (List.mem_append.1 hp).elim (HPP.out p) (fun e => by rw [List.mem_singleton.1 e]; exact HFIN.out), HC_0.out⟩, HC_1.out, HC_2.out⟩, HB3.out⟩
          · rw [if_neg ha] at h02; subst h02
            have HFIN : Hid (okPl rows by_ a b = true) := Lib.hid (by rw [HOK.out]; simp; omega)
            have k2 := HK2.out; have f2 := HF2.out
            clear b1 b2 b3 hby hlen1
            gi_wp2
            all_goals first
              | exact ⟨(KF.out _).trans ((KeepsOthers.setCell _ _ _).from _), ⟨⟨rfl, _, List.mem_append.2 (.inr (List.mem_singleton.2 rfl)), HFIN.out⟩, HC_2.out.set _⟩, HB3.out.setCell (p := ⟨w.heap.size + 1 + 1, 0, none⟩) (by simp; omega) _⟩
              | exact ⟨KF.out _, KB.out, ⟨⟨fun p hp => (List.mem_append.1 hp).elim (HPP.out p) (fun e => by rw [List.mem_singleton.1 e]; exact HFIN.out), HC_0.out⟩, HC_1.out, HC_2.out⟩, HB3.out⟩
      case done =>
        rintro D zs W hD hzs ⟨⟨⟨hp, c0⟩, c1, c2⟩, hB⟩ hK
        have cR := c2.cell
        have fR := c2.frozen
        gi_wp2
        have hK' := (KeepsOthers.setCell W ⟨w.heap.size + 1 + 1, 0, none⟩ (.bool true)).same D _ hK rfl
        refine ⟨by simp, .inl ⟨_, _, rfl, run_takeDeferred hK', ?_⟩⟩
        have hc5 := cell_kept (c2.set (.bool true)).cell (grownBy_putObj' _ D (.deferred none)) (fun r e => by cases e; exact ⟨_, hK', rfl⟩)
        refine ⟨.bool true, ?_, by rw [risesB_true ((shB_iff rows).2 HSH.out) (fun p => hp p (hzs p))], (hB.setCell (p := ⟨w.heap.size + 1 + 1, 0, none⟩) (by simp; omega) _).trans (belowK_b (w := w) (Nat.le_refl _) _ D _ _ (by omega) hK' rfl rfl)⟩
        simp [results, Try.f44, go_sem, hc5]
      case stop =>
        rintro D c pre W hD hpre ⟨⟨⟨rfl, p, hx, hy⟩, c2⟩, hB⟩ hK
        gi_wp2
        refine ⟨by simp, .inl ⟨_, _, rfl, run_takeDeferred hK, ?_⟩⟩
        have hc5 := cell_kept c2.cell (grownBy_putObj' _ D (.deferred none)) (fun r e => by cases e; exact ⟨_, hK, rfl⟩)
        refine ⟨.bool false, ?_, by rw [risesB_false p hy], hB.trans (belowK_b (w := w) (Nat.le_refl _) W D _ _ (by omega) hK rfl rfl)⟩
        simp [results, Try.f44, go_sem, hc5]
end Go.Proofs.Ytpbemjdaanlaoaa.Pr
set_option linter.unusedVariables false
set_option linter.unusedSimpArgs false
namespace Go.Proofs.Ytpbemjdaanlaoaa.Pr
open Go.RowKit Go.Proofs.YtpbemjdaanlaoaaW.PrintWords Go.Proofs.YtpbemjdaanlaoaaW.PrintLast Go.Proofs.YtpbemjdaanlaoaaW.PrintMore
open Go.Maps
set_option maxRecDepth 100000

/-- The answer on a rack: 12 tapers at most, of 1 to 99, that rise. -/
def rkC (rows : List (List Int)) : Int := if 12 < rows.flatten.length then 6 else if within_ 1 99 rows.flatten = false then 3 else if risesB rows 0 = false then 22 else 0
def rack_CheckRack.f (l0 : List (List Int)) : Option (Int) := if l0.length ≤ 1000 ∧ l0.flatten.length ≤ 1000 then some (rkC l0) else none

theorem within_true {lo hi : Int} {l : List Int} (h : within_ lo hi l = true) : ∀ x ∈ l, lo ≤ x ∧ x ≤ hi := by
  intro x hx
  unfold within_ at h
  simp at h
  have := h x hx
  omega

set_option maxHeartbeats 4000000 in
theorem rack_CheckRack.calls (A0 : Option Addr) (c0 : Nat) (l0 : List (List Int)) (r : Int) (w : World) (hr0 : Kd.C (Kd.slice 3 (Kd.int .i64)) w A0 l0.length l0) (hc0 : l0.length ≤ c0) (h : rack_CheckRack.f l0 = some r) :
    Calls Try.prog 10 #[.slice A0 l0.length c0] w fun e w' => e = .returned (.int .i64 r) ∧ Below w.heap.size w w' := by
  unfold rack_CheckRack.f at h
  have hb : l0.length ≤ 1000 ∧ l0.flatten.length ≤ 1000 := by
    by_cases hb : l0.length ≤ 1000 ∧ l0.flatten.length ≤ 1000
    · exact hb
    · rw [if_neg hb] at h; cases h
  rw [if_pos hb] at h
  injection h with h
  obtain ⟨hb1, hb2⟩ := hb
  obtain ⟨fl, hfl⟩ : ∃ fl, fl = l0.flatten := ⟨_, rfl⟩
  have hcat := slices_Concat_int_int.calls A0 c0 l0 fl w hr0 hc0 (by unfold slices_Concat_int_int.f; rw [if_pos hb2, hfl])
  have hw42 : ∀ (A : Option Addr) (c : Nat) (w1 : World), Kd.C (Kd.int .i64) w1 A fl.length fl → Calls Try.prog 42 #[.int .i64 1, .int .i64 99, .slice A fl.length c] w1 fun e w' => e = .returned (.bool (within_ 1 99 fl)) ∧ Below w1.heap.size w1 w' := fun A c w1 hC => within42 1 99 A c fl w1 hC
  have h43 : within_ 1 99 fl = true → ∀ w1, Below w.heap.size w w1 → Calls Try.prog 43 #[.slice A0 l0.length c0] w1 fun e w' => ∃ g bm n D v, e = .returned (.pointer (some ⟨g, 0, none⟩)) ∧ StandAt w' w1.heap.size g bm n D v l0 ∧ HasP D (plF l0 l0.length 0) ∧ n ≤ 1000 ∧ Below w1.heap.size w1 w' := fun hw w1 hB =>
    newStand43 A0 c0 l0 w1 hb2 hb1 (fun x hx => wfi_of (by have := within_true hw x (by rw [hfl]; exact hx); omega)) (Kd.C_below hr0 hB)
  have h44 : within_ 1 99 fl = true → ∀ base g bm n D v w1, StandAt w1 base g bm n D v l0 → HasP D (plF l0 l0.length 0) → Calls Try.prog 44 #[.pointer (some ⟨g, 0, none⟩), .int .i64 0] w1 fun e w' => e = .returned (.bool (risesB l0 0)) ∧ Below w1.heap.size w1 w' := fun hw base g bm n D v w1 hS hP =>
    rises44 base g bm n D v l0 0 w1 hS hP hb1 hb2 (by omega) (fun row hrow x hx => by have := within_true hw x (by rw [hfl]; exact List.mem_flatten.2 ⟨row, hrow, hx⟩); omega)
  have hll : fl.length ≤ 1000 := by rw [hfl]; exact hb2
  unfold rkC at h
  rw [← hfl] at h
  have H := Lib.hid h; have HCAT := Lib.hid hcat; have HW := Lib.hid hw42; have H43 := Lib.hid h43; have H44 := Lib.hid h44
  clear h hcat hw42 h43 h44 hfl hb2 hr0
  by_cases t1 : 12 < fl.length
  · go_enter Try.func10, Try.ntmps10
    go_wp2_with (go_at_call 41; refine HCAT.out.mono ?_; rintro e w1 ⟨v1, rfl, hR1, hb1⟩; obtain ⟨A1, c1, rfl⟩ := Kd.R_slice hR1)
    go_ret
    exact ⟨by rw [← H.out, if_pos t1]; rfl, hb1⟩
  · generalize hq : within_ 1 99 fl = q at *
    cases q
    · go_enter Try.func10, Try.ntmps10
      go_wp2_with (first
        | (go_at_call 41; refine HCAT.out.mono ?_; rintro e w1 ⟨v1, rfl, hR1, hb1⟩; obtain ⟨A1, c1, rfl, hc1, hC1⟩ := Kd.R_reads hR1)
        | (go_at_call 42; refine (HW.out A1 c1 _ hC1).mono ?_; rintro e w2 ⟨rfl, hb2⟩))
      go_ret
      exact ⟨by rw [← H.out, if_neg t1]; rfl, hb1.trans (hb2.mono hb1.size)⟩
    · have h43 := H43.out rfl
      have h44 := H44.out rfl
      have H43' := Lib.hid h43; have H44' := Lib.hid h44
      clear h43 h44
      generalize risesB l0 0 = p at *
      cases p
      all_goals
        go_enter Try.func10, Try.ntmps10
        go_wp2_with (first
          | (go_at_call 41; refine HCAT.out.mono ?_; rintro e w1 ⟨v1, rfl, hR1, hb1⟩; obtain ⟨A1, c1, rfl, hc1, hC1⟩ := Kd.R_reads hR1)
          | (go_at_call 42; refine (HW.out A1 c1 _ hC1).mono ?_; rintro e w2 ⟨rfl, hb2⟩)
          | (go_at_call 43; refine (H43'.out _ (hb1.trans (hb2.mono hb1.size))).mono ?_; rintro e w3 ⟨g, bm, n, D, v, rfl, hS, hP, _, hb3⟩)
          | (go_at_call 44; refine (H44'.out _ g bm n D v _ hS hP).mono ?_; rintro e w4 ⟨rfl, hb4⟩))
        go_ret
        have b3 := (hb1.trans (hb2.mono hb1.size)).trans (hb3.mono (hb1.trans (hb2.mono hb1.size)).size)
        exact ⟨by rw [← H.out, if_neg t1]; rfl, b3.trans (hb4.mono b3.size)⟩
end Go.Proofs.Ytpbemjdaanlaoaa.Pr
set_option linter.unusedVariables false
set_option linter.unusedSimpArgs false
namespace Go.Proofs.Ytpbemjdaanlaoaa.Pr
open Go.RowKit Go.Proofs.YtpbemjdaanlaoaaW.PrintWords Go.Proofs.YtpbemjdaanlaoaaW.PrintLast Go.Proofs.YtpbemjdaanlaoaaW.PrintMore
open Go.Maps
set_option maxRecDepth 100000

theorem StandAt.lower {w : World} {base base' g bm n : Nat} {D : DataW Unit} {v : Value} {rows : List (List Int)} (h : StandAt w base g bm n D v rows) (hb : base' ≤ base) : StandAt w base' g bm n D v rows :=
  ⟨h.blk, Nat.le_trans hb h.gb, Nat.le_trans hb h.bb, Kd.S_lower h.row hb, h.own⟩

theorem rkC_ok {rows : List (List Int)} (h : rkC rows = 0) : rows.flatten.length ≤ 12 ∧ within_ 1 99 rows.flatten = true ∧ risesB rows 0 = true := by
  unfold rkC at h
  split at h
  · cases h
  · rename_i h1
    split at h
    · cases h
    · rename_i h2
      split at h
      · cases h
      · rename_i h3
        exact ⟨Nat.le_of_not_lt h1, by simpa using h2, by simpa using h3⟩

set_option maxHeartbeats 4000000 in
theorem open51_no (A0 : Option Addr) (c0 : Nat) (l0 : List (List Int)) (w : World) (hr0 : Kd.C (Kd.slice 3 (Kd.int .i64)) w A0 l0.length l0) (hc0 : l0.length ≤ c0) (hb1 : l0.length ≤ 1000) (hb2 : l0.flatten.length ≤ 1000) (hk : rkC l0 ≠ 0) :
    Calls Try.prog 51 #[.slice A0 l0.length c0] w fun e w' => e = .returned (.tuple #[.pointer none, .int .i64 (rkC l0)]) ∧ Below w.heap.size w w' := by
  have h10 := rack_CheckRack.calls A0 c0 l0 (rkC l0) w hr0 hc0 (by unfold rack_CheckRack.f; rw [if_pos ⟨hb1, hb2⟩])
  have H10 := Lib.hid h10
  clear h10 hb2 hr0
  generalize rkC l0 = k at *
  have hk' : (k == 0) = false := by simpa using hk
  clear hk
  go_enter Try.func51, Try.ntmps51
  go_wp2_with (go_at_call 10; refine H10.out.mono ?_; rintro e w1 ⟨rfl, hb1⟩)
  go_ret2
  exact ⟨rfl, hb1⟩
set_option maxHeartbeats 4000000 in
theorem open51_ok (A0 : Option Addr) (c0 : Nat) (l0 : List (List Int)) (w : World) (hr0 : Kd.C (Kd.slice 3 (Kd.int .i64)) w A0 l0.length l0) (hc0 : l0.length ≤ c0) (hb1 : l0.length ≤ 1000) (hk : rkC l0 = 0) :
    Calls Try.prog 51 #[.slice A0 l0.length c0] w fun e w' => ∃ g bm n D v, e = .returned (.tuple #[.pointer (some ⟨g, 0, none⟩), .int .i64 0]) ∧ StandAt w' w.heap.size g bm n D v l0 ∧ HasP D (plF l0 l0.length 0) ∧ n ≤ 1000 ∧ Below w.heap.size w w' := by
  obtain ⟨k1, k2, k3⟩ := rkC_ok hk
  have hb2 : l0.flatten.length ≤ 1000 := by omega
  have h10 := rack_CheckRack.calls A0 c0 l0 0 w hr0 hc0 (by unfold rack_CheckRack.f; rw [if_pos ⟨hb1, hb2⟩, hk])
  have h43 : ∀ w1, Below w.heap.size w w1 → Calls Try.prog 43 #[.slice A0 l0.length c0] w1 fun e w' => ∃ g bm n D v, e = .returned (.pointer (some ⟨g, 0, none⟩)) ∧ StandAt w' w1.heap.size g bm n D v l0 ∧ HasP D (plF l0 l0.length 0) ∧ n ≤ 1000 ∧ Below w1.heap.size w1 w' := fun w1 hB =>
    newStand43 A0 c0 l0 w1 hb2 hb1 (fun x hx => wfi_of (by have := within_true k2 x hx; omega)) (Kd.C_below hr0 hB)
  have H10 := Lib.hid h10; have H43 := Lib.hid h43
  clear h10 hb2 hr0 h43 hk k1 k2 k3
  go_enter Try.func51, Try.ntmps51
  go_wp2_with (first
    | (go_at_call 10; refine H10.out.mono ?_; rintro e w1 ⟨rfl, hb1⟩)
    | (go_at_call 43; refine (H43.out _ hb1).mono ?_; rintro e w3 ⟨g, bm, n, D, v, rfl, hS, hP, hn, hb3⟩))
  go_ret2
  exact ⟨g, bm, n, D, v, rfl, hS.lower hb1.size, hP, hn, hb1.trans (hb3.mono hb1.size)⟩
end Go.Proofs.Ytpbemjdaanlaoaa.Pr
set_option linter.unusedVariables false
set_option linter.unusedSimpArgs false
namespace Go.Proofs.Ytpbemjdaanlaoaa.Pr
open Go.RowKit Go.Proofs.YtpbemjdaanlaoaaW.PrintWords Go.Proofs.YtpbemjdaanlaoaaW.PrintLast Go.Proofs.YtpbemjdaanlaoaaW.PrintMore
open Go.Maps
set_option maxRecDepth 100000

theorem flat_ge : ∀ (rows : List (List Int)), (∀ r ∈ rows, 0 < r.length) → rows.length ≤ rows.flatten.length
  | [], _ => Nat.zero_le _
  | r :: rows, h => by
    have h1 := h r (by simp)
    have h2 := flat_ge rows (fun x hx => h x (by simp [hx]))
    rw [List.flatten_cons, List.length_append, List.length_cons]
    omega
theorem rises_len {rows : List (List Int)} {b : Int} (h : risesB rows b = true) : rows.length ≤ rows.flatten.length := by
  refine flat_ge rows (fun r hr => ?_)
  obtain ⟨k, hk, rfl⟩ := List.mem_iff_getElem.1 hr
  unfold risesB at h
  rw [Bool.and_eq_true] at h
  have := (shB_iff rows).1 h.1 k hk
  unfold shR at this
  rw [Bool.and_eq_true] at this
  have := of_decide_eq_true this.1
  rwa [rdL_get rows k hk] at this
theorem row_le_flat : ∀ (rows : List (List Int)) (r : List Int), r ∈ rows → r.length ≤ rows.flatten.length
  | a :: rows, r, h => by
    rw [List.flatten_cons, List.length_append]
    rcases List.mem_cons.1 h with rfl | h
    · omega
    · have := row_le_flat rows r h; omega
theorem rkC_okR {rows : List (List Int)} (h : rkC rows = 0) : okR rows ∧ rows.length ≤ 12 := by
  obtain ⟨h1, h2, h3⟩ := rkC_ok h
  refine ⟨fun r hr => ⟨by have := row_le_flat rows r hr; omega, fun x hx => wfi_of (by have := within_true h2 x (List.mem_flatten.2 ⟨r, hr, hx⟩); omega)⟩, by have := rises_len h3; omega⟩

def putR (l0 : List (List Int)) (a1 : Int) : (List (List Int)) × Int × Int :=
  if rkC l0 ≠ 0 then ([], 0, rkC l0) else if within_ 1 99 [a1] = false then ([], 0, 3) else if l0.flatten.length = 12 then ([], 0, 10) else ((putL l0 a1).1, (putL l0 a1).2.1, 0)
def rack_Put.f (l0 : List (List Int)) (a1 : Int) : Option ((List (List Int)) × Int × Int) := if l0.length ≤ 1000 ∧ l0.flatten.length ≤ 1000 then some (putR l0 a1) else none

set_option maxHeartbeats 4000000 in
theorem rack_Put.calls (A0 : Option Addr) (c0 : Nat) (l0 : List (List Int)) (a1 : Int) (r1 : List (List Int)) (r2 : Int) (r3 : Int) (w : World) (hr0 : Kd.C (Kd.slice 3 (Kd.int .i64)) w A0 l0.length l0) (hc0 : l0.length ≤ c0) (h : rack_Put.f l0 a1 = some (r1, r2, r3)) :
    Calls Try.prog 15 #[.slice A0 l0.length c0, .int .i64 a1] w fun e w' => ∃ v0_ : Value, e = .returned (.tuple #[v0_, .int .i64 r2, .int .i64 r3]) ∧ Kd.S (Kd.slice 3 (Kd.int .i64)) 32 w' w.heap.size (fun _ => True) v0_ r1 ∧ Below w.heap.size w w' := by
  unfold rack_Put.f at h
  have hb : l0.length ≤ 1000 ∧ l0.flatten.length ≤ 1000 := by
    by_cases hb : l0.length ≤ 1000 ∧ l0.flatten.length ≤ 1000
    · exact hb
    · rw [if_neg hb] at h; cases h
  rw [if_pos hb] at h
  injection h with h
  obtain ⟨hb1, hb2⟩ := hb
  unfold putR at h
  by_cases hk : rkC l0 ≠ 0
  · rw [if_pos hk] at h
    have h51 := open51_no A0 c0 l0 w hr0 hc0 hb1 hb2 hk
    have H51 := Lib.hid h51
    clear h51 hr0 hb2
    injection h with e1 h
    injection h with e2 e3
    subst e1 e2 e3
    generalize rkC l0 = k at *
    have hk' : (k == 0) = false := by simpa using hk
    clear hk
    go_enter Try.func15, Try.ntmps15
    go_wp2_with (go_at_call 51; refine H51.out.mono ?_; rintro e w1 ⟨rfl, hb1⟩)
    go_ret3
    exact ⟨_, rfl, Kd.S_nil _ _ _ _ _, hb1⟩
  · rw [if_neg hk] at h
    have hk0 : rkC l0 = 0 := by
      by_cases hz : rkC l0 = 0
      · exact hz
      · exact absurd hz hk
    have h51 := open51_ok A0 c0 l0 w hr0 hc0 hb1 hk0
    obtain ⟨hok, hl12⟩ := rkC_okR hk0
    have hcat : ∀ w1, Below w.heap.size w w1 → Calls Try.prog 41 #[.slice A0 l0.length c0] w1 fun e w' => ∃ v0_ : Value, e = .returned (v0_) ∧ Kd.R (Kd.int .i64) 3 w' w1.heap.size (fun _ => True) v0_ l0.flatten ∧ Below w1.heap.size w1 w' := fun w1 hB =>
      slices_Concat_int_int.calls A0 c0 l0 l0.flatten w1 (Kd.C_below hr0 hB) hc0 (by unfold slices_Concat_int_int.f; rw [if_pos hb2])
    have hL : ∀ W : World, Calls Try.prog 42 #[.int .i64 1, .int .i64 99, .slice (some ⟨W.heap.size, 0, none⟩) 1 1] (W.alloc (.cells #[.int .i64 a1] 3)) fun e w' => e = .returned (.bool (within_ 1 99 [a1])) ∧ Below W.heap.size W w' := fun W => by
      obtain ⟨A, c, e, _, hC⟩ := Kd.R_reads (R_lits W 3 [a1] (by simp))
      injection e with e1 _ e2
      subst e1
      have hb0 : Below W.heap.size W (W.alloc (.cells #[.int .i64 a1] 3)) := below_alloc (Below.refl _ _) _
      exact (within42 1 99 _ 1 [a1] _ hC).mono fun e w' ⟨h1, h2⟩ => ⟨h1, hb0.trans (h2.mono hb0.size)⟩
    have hflb : l0.flatten.length ≤ 1000 := hb2
    generalize hfl : l0.flatten = fl at *
    have H51 := Lib.hid h51; have HCAT := Lib.hid hcat; have HL := Lib.hid hL; have HOK := Lib.hid hok; have HFL := Lib.hid hfl
    clear h51 hcat hL hok hr0 hk hk0 hfl
    by_cases hw : within_ 1 99 [a1] = false
    · rw [if_pos hw] at h
      injection h with e1 h
      injection h with e2 e3
      subst e1 e2 e3
      rw [hw] at HL
      clear hw
      go_enter Try.func15, Try.ntmps15
      go_wp2_with (first
        | (go_at_call 51; refine H51.out.mono ?_; rintro e w1 ⟨g, bm, n, D, v, rfl, hS, _, hn, hb1⟩)
        | (go_at_call 42; refine (HL.out _).mono ?_; rintro e w2 ⟨rfl, hb2⟩))
      go_ret3
      exact ⟨_, rfl, Kd.S_nil _ _ _ _ _, hb1.trans (hb2.mono hb1.size)⟩
    · rw [if_neg hw] at h
      have hw1 : within_ 1 99 [a1] = true := by simpa using hw
      have hwa : wfi a1 := wfi_of (by have := within_true hw1 a1 (by simp); omega)
      have HWA := Lib.hid hwa
      rw [hw1] at HL
      clear hw hw1 hwa
      by_cases ht : fl.length = 12
      · rw [if_pos ht] at h
        injection h with e1 h
        injection h with e2 e3
        subst e1 e2 e3
        have ht' : ((fl.length : Int) == 12) = true := by simp; omega
        clear ht
        go_enter Try.func15, Try.ntmps15
        go_wp2_with (first
          | (go_at_call 51; refine H51.out.mono ?_; rintro e w1 ⟨g, bm, n, D, v, rfl, hS, _, hn, hb1⟩)
          | (go_at_call 42; refine (HL.out _).mono ?_; rintro e w2 ⟨rfl, hb2⟩)
          | (go_at_call 41; refine (HCAT.out _ (hb1.trans (hb2.mono hb1.size))).mono ?_; rintro e w3 ⟨v1, rfl, hR1, hb3⟩; obtain ⟨A1, c1, rfl⟩ := Kd.R_slice hR1))
        go_ret3
        have b2 := hb1.trans (hb2.mono hb1.size)
        exact ⟨_, rfl, Kd.S_nil _ _ _ _ _, b2.trans (hb3.mono b2.size)⟩
      · rw [if_neg ht] at h
        injection h with e1 h
        injection h with e2 e3
        subst e1 e2 e3
        have ht' : ((fl.length : Int) == 12) = false := by simp; omega
        clear ht
        go_enter Try.func15, Try.ntmps15
        go_wp2_with (first
          | (go_at_call 51; refine H51.out.mono ?_; rintro e w1 ⟨g, bm, n, D, v, rfl, hS, _, hn, hb1⟩; have HS1 := Lib.hid hS; clear hS)
          | (go_at_call 42; refine (HL.out _).mono ?_; rintro e w2 ⟨rfl, hb2⟩; have HS2 := Lib.hid (HS1.out.below hb2))
          | (go_at_call 41; refine (HCAT.out _ (hb1.trans (hb2.mono hb1.size))).mono ?_; rintro e w3 ⟨v1, rfl, hR1, hb3⟩; obtain ⟨A1, c1, rfl⟩ := Kd.R_slice hR1; have HS3 := Lib.hid (HS2.out.below hb3); have HB3 := Lib.hid ((hb1.trans (hb2.mono hb1.size)).trans (hb3.mono (hb1.trans (hb2.mono hb1.size)).size)))
          | (go_at_call 52; refine (put52 w.heap.size g bm n D v l0 a1 _ HS3.out HB3.out.size (by omega) (by omega) HWA.out HOK.out).mono ?_; rintro e w4 ⟨n', D', v', rfl, hS4, _, hb4⟩; have x4 := hS4.hv.1; have HS4 := Lib.hid hS4; clear hS4))
        go_ret3
        exact ⟨_, rfl, HS4.out.row, HB3.out.trans hb4⟩
end Go.Proofs.Ytpbemjdaanlaoaa.Pr
