import Derived.Test.YtpbemjdaanlaoaaH3
import Derived.Test.YtpbemjdaanlaoaaW1
set_option linter.unusedVariables false
set_option linter.unusedSimpArgs false
namespace Go.Proofs.Ytpbemjdaanlaoaa.Pr
open Go.RowKit Go.Proofs.YtpbemjdaanlaoaaW.PrintWords Go.Proofs.YtpbemjdaanlaoaaW.PrintLast Go.Proofs.YtpbemjdaanlaoaaW.PrintMore
set_option maxRecDepth 100000
theorem lwCopied (A : Option Addr) (c : Nat) (l : List (List Int)) (w : World) (h : CR w A l.length l) (hc : l.length ≤ c) (hk : fipplelaw08_copied.f l = some l) : Calls Try.prog 9 #[.slice A l.length c] w fun e w' => retR l.length l w w' e (fun v => v) :=
  (fipplelaw08_copied.calls A c l l w h hc hk).mono fun e w' ⟨v, h1, h2, h3⟩ => by
    obtain ⟨A, c, rfl, h4, h5⟩ := toR (w := w) (n := l.length) rfl h2
    exact ⟨A, c, h1, h4, h5, h3⟩
theorem lwGreat (k : Nat) (A : Option Addr) (c : Nat) (l : List (List Int)) (b : Bool) (w : World) (h : CR w A l.length l) (hc : l.length ≤ c) (hk : fipplelaw08_great.f k l = some b) : Calls Try.prog 7 #[.slice A l.length c] w fun e w' => e = .returned (.bool b) ∧ Below w.heap.size w w' :=
  (fipplelaw08_great.calls k A c l b w h hc hk).mono fun e w' ⟨h1, h2⟩ => ⟨h1, by first | exact h2 | exact drawn_below h2⟩
theorem lwSame (k : Nat) (A0 : Option Addr) (c0 : Nat) (A1 : Option Addr) (c1 : Nat) (l : List (List Int)) (w : World) (h0 : CR w A0 l.length l) (hc0 : l.length ≤ c0) (h1 : CR w A1 l.length l) (hc1 : l.length ≤ c1) (hk : fipplelaw08_Same.f k l l = some true) : Calls Try.prog 14 #[.slice A0 l.length c0, .slice A1 l.length c1] w fun e w' => e = .returned (.bool true) ∧ Below w.heap.size w w' :=
  (fipplelaw08_Same.calls k A0 c0 l A1 c1 l true w h0 hc0 h1 hc1 hk).mono fun e w' ⟨h1, h2⟩ => ⟨h1, by first | exact h2 | exact drawn_below h2⟩
theorem lwInts (k : Nat) (A0 : Option Addr) (c0 : Nat) (A1 : Option Addr) (c1 : Nat) (l : List Int) (w : World) (h0 : CI w A0 l.length l) (hc0 : l.length ≤ c0) (h1 : CI w A1 l.length l) (hc1 : l.length ≤ c1) (hk : fipplelaw08_Ints.f k l l = some true) : Calls Try.prog 25 #[.slice A0 l.length c0, .slice A1 l.length c1] w fun e w' => e = .returned (.bool true) ∧ Below w.heap.size w w' :=
  (fipplelaw08_Ints.calls k A0 c0 l A1 c1 l true w h0 hc0 h1 hc1 hk).mono fun e w' ⟨h1, h2⟩ => ⟨h1, by first | exact h2 | exact drawn_below h2⟩
end Go.Proofs.Ytpbemjdaanlaoaa.Pr
