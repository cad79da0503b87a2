import Derived.Test.YtpbemjdaanlaoaaN5
import Derived.Test.YtpbemjdaanlaoaaLR
set_option linter.unusedVariables false
set_option linter.unusedSimpArgs false
namespace Go.Proofs.Ytpbemjdaanlaoaa.Pr
open Go.RowKit Go.Proofs.YtpbemjdaanlaoaaW.PrintWords Go.Proofs.YtpbemjdaanlaoaaW.PrintLast Go.Proofs.YtpbemjdaanlaoaaW.PrintMore
set_option maxRecDepth 100000
theorem Ev.same {α : Type} {g : Nat → Option α} {a b : α} (h : a = b) (k : Ev g a) : Ev g b := h ▸ k
theorem copied_eq {l : List (List Int)} (hl : l.length ≤ 20) (hr : ∀ r ∈ l, r.length ≤ 20) : fipplelaw08_copied.f l = some l := by
  unfold fipplelaw08_copied.f
  rw [if_pos]
  refine ⟨by omega, ?_⟩
  simp only [lenOk, List.all_eq_true, decide_eq_true_eq]
  intro r h
  have := hr r h
  omega
theorem RackRows_ev (l : List (List Int)) : Ev (fun k => fipplelaw08_RackRows.f k l) true := by
  obtain ⟨b, h1, h2⟩ := great_ev l
  refine Ev.bind h1 ?_
  cases b with
  | true => exact Ev.now _
  | false =>
    obtain ⟨h3, h4⟩ := h2 rfl
    have h5 := flat_small h4
    refine Ev.congr (f := fun k => (fippleref08_CheckRack.f k l).bind fun t155 => (if rkC l = t155 then ((some (orC l)).bind fun t156 => ((fippleref08_CheckOrder.f k l).bind fun t157 => (if t156 = t157 then ((fipplelaw08_Same.f k l l).bind fun t158 => (if t158 = true then ((fipplelaw08_Works.f).bind fun t159 => (some t159)) else (some false))) else (some false)))) else (some false))) (fun k => ?_) ?_
    · rw [if_neg (by decide), copied_eq h3 h4, rack_CheckRack.f, if_pos ⟨by omega, by omega⟩, rack_CheckOrder.f, if_pos ⟨by omega, by omega⟩]
      rfl
    · refine Ev.bind (refRack_ev l h3 h4) ?_
      refine Ev.congr (f := fun k => (fippleref08_CheckOrder.f k l).bind fun t157 => (if orC l = t157 then ((fipplelaw08_Same.f k l l).bind fun t158 => (if t158 = true then ((fipplelaw08_Works.f).bind fun t159 => (some t159)) else (some false))) else (some false))) (fun k => by rw [if_pos rfl]; rfl) ?_
      refine Ev.bind (refOrder_ev l h3 h4) ?_
      refine Ev.congr (f := fun k => (fipplelaw08_Same.f k l l).bind fun t158 => (if t158 = true then ((fipplelaw08_Works.f).bind fun t159 => (some t159)) else (some false))) (fun k => by rw [if_pos rfl]) ?_
      refine Ev.bind (sameR_ev l (by omega) (fun r hr => Nat.le_trans (h4 r hr) (by omega))) ?_
      exact Ev.now _
def retTrue (w : World) : Ending → World → Prop := fun e w' => e = .returned (.bool true) ∧ Below w.heap.size w w'
theorem RackRows_true (A0 : Option Addr) (c0 : Nat) (l0 : List (List Int)) (w : World) (hr0 : Kd.C (Kd.slice 3 (Kd.int .i64)) w A0 l0.length l0) (hc0 : l0.length ≤ c0) : Calls Try.prog 3 #[.slice A0 l0.length c0] w (retTrue w) := by
  obtain ⟨k, hk⟩ := (RackRows_ev l0).rounds
  exact fipplelaw08_RackRows.calls k A0 c0 l0 true w hr0 hc0 hk
end Go.Proofs.Ytpbemjdaanlaoaa.Pr
