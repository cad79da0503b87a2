import Derived.Test.YtpbemjdaanlaoaaK2
import Derived.Test.YtpbemjdaanlaoaaK0
set_option linter.unusedVariables false
set_option linter.unusedSimpArgs false
namespace Go.Proofs.Ytpbemjdaanlaoaa.Pr
open Go.RowKit Go.Proofs.YtpbemjdaanlaoaaW.PrintWords Go.Proofs.YtpbemjdaanlaoaaW.PrintLast Go.Proofs.YtpbemjdaanlaoaaW.PrintMore
set_option maxRecDepth 100000
theorem lwBuild (A : Option Addr) (c : Nat) (s : List Int) (X1 X2 : List (List Int)) (X3 : Int) (w : World) (h : CI w A s.length s) (hc : s.length ≤ c) (hk : rack_Build.f s = some (X1, X2, X3)) : Calls Try.prog 19 #[.slice A s.length c] w fun e w' => ∃ A1 c1 A2 c2, e = .returned (.tuple #[.slice A1 X1.length c1, .slice A2 X2.length c2, .int .i64 X3]) ∧ (X1.length ≤ c1 ∧ CR w' A1 X1.length X1) ∧ (X2.length ≤ c2 ∧ CR w' A2 X2.length X2) ∧ Below w.heap.size w w' :=
  (rack_Build.calls A c s X1 X2 X3 w h hc hk).mono fun e w' ⟨v0, v1, h1, h2, h3, h4⟩ => by
    obtain ⟨A1, c1, rfl, h5⟩ := toR (w := w) (n := X1.length) rfl h2
    obtain ⟨A2, c2, rfl, h6⟩ := toR (w := w) (n := X2.length) rfl h3
    exact ⟨A1, c1, A2, c2, h1, h5, h6, h4⟩
theorem lwRefBuild (k : Nat) (A : Option Addr) (c : Nat) (s : List Int) (X1 X2 : List (List Int)) (X3 : Int) (w : World) (h : CI w A s.length s) (hc : s.length ≤ c) (hk : fippleref08_Build.f k s = some (X1, X2, X3)) : Calls Try.prog 20 #[.slice A s.length c] w fun e w' => ∃ A1 c1 A2 c2, e = .returned (.tuple #[.slice A1 X1.length c1, .slice A2 X2.length c2, .int .i64 X3]) ∧ (X1.length ≤ c1 ∧ CR w' A1 X1.length X1) ∧ (X2.length ≤ c2 ∧ CR w' A2 X2.length X2) ∧ Below w.heap.size w w' :=
  (fippleref08_Build.calls k A c s X1 X2 X3 w h hc hk).mono fun e w' ⟨v0, v1, h1, h2, h3, h4⟩ => by
    obtain ⟨A1, c1, rfl, h5⟩ := toR (w := w) (n := X1.length) rfl h2
    obtain ⟨A2, c2, rfl, h6⟩ := toR (w := w) (n := X2.length) rfl h3
    exact ⟨A1, c1, A2, c2, h1, h5, h6, h4⟩
theorem lwRead (A0 : Option Addr) (c0 : Nat) (R : List (List Int)) (A1 : Option Addr) (c1 : Nat) (O : List (List Int)) (X1 : List Int) (X2 : Int) (w : World) (h0 : CR w A0 R.length R) (hc0 : R.length ≤ c0) (h1 : CR w A1 O.length O) (hc1 : O.length ≤ c1) (hk : rack_Read.f R O = some (X1, X2)) : Calls Try.prog 21 #[.slice A0 R.length c0, .slice A1 O.length c1] w fun e w' => retI X1.length X1 w w' e (fun v => .tuple #[v, .int .i64 X2]) :=
  (rack_Read.calls A0 c0 R A1 c1 O X1 X2 w h0 hc0 h1 hc1 hk).mono fun e w' ⟨v, h1, h2, h3⟩ => by
    obtain ⟨A, c, rfl, h4, h5⟩ := toI (w := w) (n := X1.length) rfl h2
    exact ⟨A, c, h1, h4, h5, h3⟩
theorem lwRefRead (k : Nat) (A0 : Option Addr) (c0 : Nat) (R : List (List Int)) (A1 : Option Addr) (c1 : Nat) (O : List (List Int)) (X1 : List Int) (X2 : Int) (w : World) (h0 : CR w A0 R.length R) (hc0 : R.length ≤ c0) (h1 : CR w A1 O.length O) (hc1 : O.length ≤ c1) (hk : fippleref08_Read.f k R O = some (X1, X2)) : Calls Try.prog 22 #[.slice A0 R.length c0, .slice A1 O.length c1] w fun e w' => retI X1.length X1 w w' e (fun v => .tuple #[v, .int .i64 X2]) :=
  (fippleref08_Read.calls k A0 c0 R A1 c1 O X1 X2 w h0 hc0 h1 hc1 hk).mono fun e w' ⟨v, h1, h2, h3⟩ => by
    obtain ⟨A, c, rfl, h4, h5⟩ := toI (w := w) (n := X1.length) rfl h2
    exact ⟨A, c, h1, h4, h5, h3⟩
theorem lwSeq (A : Option Addr) (c : Nat) (l : List Int) (r : Int) (w : World) (h : CI w A l.length l) (hc : l.length ≤ c) (hk : rack_CheckSequence.f l = some r) : Calls Try.prog 23 #[.slice A l.length c] w fun e w' => e = .returned (.int .i64 r) ∧ Below w.heap.size w w' :=
  (rack_CheckSequence.calls A c l r w h hc hk).mono fun e w' ⟨h1, h2⟩ => ⟨h1, by first | exact h2 | exact drawn_below h2⟩
theorem lwRefSeq (k : Nat) (A : Option Addr) (c : Nat) (l : List Int) (r : Int) (w : World) (h : CI w A l.length l) (hc : l.length ≤ c) (hk : fippleref08_CheckSequence.f k l = some r) : Calls Try.prog 24 #[.slice A l.length c] w fun e w' => e = .returned (.int .i64 r) ∧ Below w.heap.size w w' :=
  (fippleref08_CheckSequence.calls k A c l r w h hc hk).mono fun e w' ⟨h1, h2⟩ => ⟨h1, by first | exact h2 | exact drawn_below h2⟩
/-- sizes of what Build and Read hand back -/
theorem bld_small (s : List Int) : ((bldR s).1.length ≤ 1000 ∧ ∀ r ∈ (bldR s).1, r.length ≤ 1000) ∧ ((bldR s).2.1.length ≤ 1000 ∧ ∀ r ∈ (bldR s).2.1, r.length ≤ 1000) := by
  unfold bldR
  split
  · simp
  · rename_i h
    have hk := seqC_ok (Decidable.not_not.mp h)
    obtain ⟨h1, h2, h3, h4⟩ := bS_inv (s := s) (fun x hx => wfi_of (by have := within_true hk.2 x hx; omega)) s.length
    have h5 := hk.1
    refine ⟨⟨?_, fun r hr => Nat.le_trans (h1 r hr).1 (by omega)⟩, ⟨?_, fun r hr => Nat.le_trans (h2 r hr) (by omega)⟩⟩
    · show (bS s s.length).1.length ≤ 1000
      omega
    · show (bS s s.length).2.length ≤ 1000
      omega
end Go.Proofs.Ytpbemjdaanlaoaa.Pr
