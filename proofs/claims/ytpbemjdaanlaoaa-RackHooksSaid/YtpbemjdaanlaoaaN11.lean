/- Lemmas for the laws of rack: OP. -/
import Derived.Deep.Slices
import Derived.Deep.Matrix
import Derived.ChangeSame
import Derived.Test.YtpbemjdaanlaoaaPr0
set_option linter.unusedVariables false
set_option linter.unusedSimpArgs false
set_option linter.unusedVariables false
set_option linter.unusedSimpArgs false
namespace Go.Proofs.Ytpbemjdaanlaoaa.Pr
open Go.RowKit Go.Proofs.YtpbemjdaanlaoaaW.PrintWords Go.Proofs.YtpbemjdaanlaoaaW.PrintLast Go.Proofs.YtpbemjdaanlaoaaW.PrintMore
def in64 (x : Int) : Prop := -9223372036854775808 ≤ x ∧ x ≤ 9223372036854775807
theorem in64_wf {x : Int} (h : (Lit.int .i64 x).wf = true) : in64 x := by
  unfold Lit.wf at h
  simp only [Bool.and_eq_true, decide_eq_true_eq] at h
  have h1 : IntKind.i64.min = -9223372036854775808 := by kernel_rfl
  have h2 : IntKind.i64.max = 9223372036854775807 := by kernel_rfl
  rw [h1, h2] at h
  exact h
theorem open_row64 {H : Type} {enc : TypeId × Value → H} {w : World} {spare : Nat → Bool} {held : Bool} {A : Option Addr} {len cap : Nat} {d : DataW H} {p : List MemPlace} {t e : TypeId} (ht : Try.prog.underlying t = some (.slice e)) (he : Try.prog.underlying e = some (.int .i64)) (hce : Try.prog.cellsOf e = 1)
    (h : DataW.Trod enc Try.prog w 0 spare held t (.slice A len cap) d p) : len ≤ cap ∧ ∃ l : List Int, Kd.C (Kd.int .i64) w A len l ∧ ∀ x ∈ l, in64 x := by
  obtain ⟨n, hn⟩ := h
  simp only [Value.cells] at hn
  rcases Go.Deep.open_slice ht hn with ⟨hcs, _⟩ | ⟨a, len', cap', m, n', D, Pl, hcs, _, hl, hm, hmm, _, hx⟩
  · simp at hcs
    obtain ⟨rfl, rfl, rfl⟩ := hcs
    exact ⟨Nat.le_refl _, [], ⟨rfl, by simp, fun h => absurd h (by simp)⟩, by simp⟩
  · simp at hcs
    obtain ⟨rfl, rfl, rfl⟩ := hcs
    have hml : len ≤ m := by rw [hmm]; split <;> omega
    have hy : ∀ i, ∃ y : Int, i < len → (∃ cs, w.cells? 0 (a.add (i * 1)) 1 = some cs ∧ cs = [.int .i64 y]) ∧ in64 y := by
      intro i
      by_cases hi : i < len
      · obtain ⟨cs', h1, h2⟩ := hx i (by omega)
        obtain ⟨y, e, _, hw⟩ := DataW.trod_int he h2
        rw [hce] at h1
        exact ⟨y, fun _ => ⟨⟨cs', h1, e⟩, in64_wf hw⟩⟩
      · exact ⟨0, fun h => absurd h hi⟩
    obtain ⟨Y, hY⟩ : ∃ Y : Nat → Int, ∀ i, i < len → (∃ cs, w.cells? 0 (a.add (i * 1)) 1 = some cs ∧ cs = [.int .i64 (Y i)]) ∧ in64 (Y i) := ⟨fun i => Classical.choose (hy i), fun i => Classical.choose_spec (hy i)⟩
    refine ⟨hl, (List.range len).map Y, ⟨by simp, by have := hm; unfold maxLen at this; omega, fun _ => ⟨a, rfl, fun j p hj => ?_⟩⟩, ?_⟩
    · have hjl : j < len := by have := (List.getElem?_eq_some_iff.1 hj).1; simpa using this
      have hp : p = Y j := by simp [hjl] at hj; exact hj.symm
      subst hp
      obtain ⟨⟨cs, h1, h2⟩, _⟩ := hY j hjl
      subst h2
      refine ⟨_, rfl, rfl, fun i u hu => ?_⟩
      obtain ⟨_, _, hcell⟩ := World.cells?_some h1
      have hi : i < 1 := (List.getElem?_eq_some_iff.1 hu).1
      have := hcell i hi
      rw [← hu, ← this]
      show w.cell? (a.add (j * 1 + i)) = _
      rw [Addr.add_add]
    · intro x hx
      obtain ⟨i, hi, rfl⟩ := List.mem_map.1 hx
      exact (hY i (List.mem_range.1 hi)).2
theorem cells32 : Try.prog.cellsOf 32 = 1 := by kernel_rfl
theorem cells3 : Try.prog.cellsOf 3 = 1 := by kernel_rfl
/-- an argument of rows of numbers -/
theorem open_rows {H : Type} {enc : TypeId × Value → H} {w : World} {A : Option Addr} {len cap : Nat} {d : DataW H} {p : List MemPlace} (h : DataW.Trod enc Try.prog w 0 (fun _ => true) true 22 (.slice A len cap) d p) :
    len ≤ cap ∧ ∃ l : List (List Int), Kd.C (Kd.slice 3 (Kd.int .i64)) w A len l ∧ ∀ r ∈ l, ∀ x ∈ r, in64 x := by
  obtain ⟨n, hn⟩ := h
  simp only [Value.cells] at hn
  rcases Go.Deep.open_int_rows Try.underlying22 Try.underlying32 Try.underlying3 cells32 cells3 hn with ⟨hcs, _⟩ | ⟨a, len', cap', As, Ls, Cs, Zs, hcs, _, hl, hm, _, hx⟩
  · simp at hcs
    obtain ⟨rfl, rfl, rfl⟩ := hcs
    exact ⟨Nat.le_refl _, [], ⟨rfl, by simp, fun h => absurd h (by simp)⟩, by simp⟩
  · simp at hcs
    obtain ⟨rfl, rfl, rfl⟩ := hcs
    have hrl : ∀ j, j < len → ((Zs j).take (Ls j)).length = Ls j := fun j hj => by
      obtain ⟨_, h1, _, h2, _⟩ := hx j (by omega)
      rw [List.length_take]; omega
    refine ⟨hl, (List.range len).map fun j => (Zs j).take (Ls j), ⟨by simp, by have := hm; unfold maxLen at this; omega, fun _ => ⟨a, rfl, fun j p hj => ?_⟩⟩, ?_⟩
    · have hjl : j < len := by have := (List.getElem?_eq_some_iff.1 hj).1; simpa using this
      have hp : p = (Zs j).take (Ls j) := by simp [hjl] at hj; exact hj.symm
      subst hp
      obtain ⟨hc, h1, h2, h3, h4, h5, h6⟩ := hx j (by omega)
      have hlen := hrl j hjl
      refine ⟨[.slice (As j) ((Zs j).take (Ls j)).length (Cs j)], rfl, ⟨As j, Cs j, rfl, by rw [hlen]; exact h1, ?_⟩, fun i u hu => ?_⟩
      · refine ⟨rfl, by rw [hlen]; unfold maxLen at h2; omega, fun hpos => ?_⟩
        rw [hlen] at hpos
        cases hA : As j with
        | none => have := h5 hA; omega
        | some a' =>
          refine ⟨a', rfl, fun c q hq => ?_⟩
          have hcl := (List.getElem?_eq_some_iff.1 hq).1
          rw [hlen] at hcl
          refine ⟨[.int .i64 q], rfl, rfl, fun i u hu => ?_⟩
          have hi : i = 0 := by
            rcases Nat.eq_zero_or_pos i with h0 | h0
            · exact h0
            · rw [List.getElem?_eq_none (by simp; omega)] at hu; cases hu
          subst hi
          have hu : u = .int .i64 q := by simpa using hu.symm
          subst hu
          have := (h6 a' hA).2 c (by omega)
          rw [List.getElem?_take] at hq
          rw [if_pos hcl] at hq
          rw [List.getD_eq_getElem?_getD, hq] at this
          rw [show c * (Kd.int .i64).sz + 0 = c by simp only [Kd.int, Kd.scalar]; omega]
          exact this
      · have hi : i = 0 := by
          rcases Nat.eq_zero_or_pos i with h0 | h0
          · exact h0
          · rw [List.getElem?_eq_none (by simp; omega)] at hu; cases hu
        subst hi
        have hu : u = .slice (As j) ((Zs j).take (Ls j)).length (Cs j) := by simpa using hu.symm
        subst hu
        rw [hlen]
        simpa [Kd.slice] using hc
    · intro r hr x hx'
      obtain ⟨j, hj, rfl⟩ := List.mem_map.1 hr
      obtain ⟨_, _, _, _, h4, _⟩ := hx j (by have := List.mem_range.1 hj; omega)
      exact in64_wf (h4 x (List.mem_of_mem_take hx'))
end Go.Proofs.Ytpbemjdaanlaoaa.Pr
