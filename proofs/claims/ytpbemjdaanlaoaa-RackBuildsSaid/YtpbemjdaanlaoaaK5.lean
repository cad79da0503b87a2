import Derived.Test.YtpbemjdaanlaoaaK4
set_option linter.unusedVariables false
set_option linter.unusedSimpArgs false
namespace Go.Proofs.Ytpbemjdaanlaoaa.Pr
open Go.RowKit Go.Proofs.YtpbemjdaanlaoaaW.PrintWords Go.Proofs.YtpbemjdaanlaoaaW.PrintLast Go.Proofs.YtpbemjdaanlaoaaW.PrintMore
set_option maxRecDepth 100000
theorem read_small (R O : List (List Int)) : (readR R O).1.length ≤ 1000 := by
  unfold readR
  split
  · simp
  · split
    · simp
    · rename_i h
      split
      · simp
      · have hk := orC_ok (Decidable.not_not.mp h)
        show (rdS O R O.flatten.length O.flatten.length).2.length ≤ 1000
        rw [rdS_len]
        omega
theorem RackBuilds_true (A0 A1 A2 : Option Addr) (c0 c1 c2 : Nat) (s : List Int) (R O : List (List Int)) (w : World) (hr0 : CI w A0 s.length s) (hc0 : s.length ≤ c0) (hr1 : CR w A1 R.length R) (hc1 : R.length ≤ c1) (hr2 : CR w A2 O.length O) (hc2 : O.length ≤ c2) : Calls Try.prog 5 #[.slice A0 s.length c0, .slice A1 R.length c1, .slice A2 O.length c2] w (retTrue w) := by
  by_cases h : 20 < s.length
  · exact RackBuilds_big0 A0 A1 A2 c0 c1 c2 s R O w hr0 hc0 hr1 hc1 hr2 hc2 h
  obtain ⟨bR, eR, fR⟩ := great_ev R
  obtain ⟨kR, hkR⟩ := eR.rounds
  cases bR with
  | true => exact RackBuilds_big1 A0 A1 A2 c0 c1 c2 s R O w hr0 hc0 hr1 hc1 hr2 hc2 (by omega) kR hkR
  | false =>
    obtain ⟨bO, eO, fO⟩ := great_ev O
    obtain ⟨kO, hkO⟩ := eO.rounds
    cases bO with
    | true => exact RackBuilds_big2 A0 A1 A2 c0 c1 c2 s R O w hr0 hc0 hr1 hc1 hr2 hc2 (by omega) kR kO hkR hkO
    | false =>
      obtain ⟨lR, rR⟩ := fR rfl
      obtain ⟨lO, rO⟩ := fO rfl
      have flR := flat_small rR
      have flO := flat_small rO
      obtain ⟨kB, hkB⟩ := (refBuild_ev s).rounds
      obtain ⟨kY, hkY⟩ := (refRead_ev R O lR rR lO rO).rounds
      obtain ⟨kQ, hkQ⟩ := (refSeq_ev s).rounds
      obtain ⟨⟨b1, b2⟩, b3, b4⟩ := bld_small s
      have b5 := read_small R O
      obtain ⟨k1, hk1⟩ := (sameR_ev (bldR s).1 b1 b2).rounds
      obtain ⟨k2, hk2⟩ := (sameR_ev (bldR s).2.1 b3 b4).rounds
      obtain ⟨k3, hk3⟩ := (intsI_ev (readR R O).1 b5).rounds
      obtain ⟨kS, hkS⟩ := (intsI_ev s (by omega)).rounds
      obtain ⟨kR1, hkR1⟩ := (sameR_ev R (by omega) (fun r hr => Nat.le_trans (rR r hr) (by omega))).rounds
      obtain ⟨kO1, hkO1⟩ := (sameR_ev O (by omega) (fun r hr => Nat.le_trans (rO r hr) (by omega))).rounds
      exact RackBuilds_small A0 A1 A2 c0 c1 c2 s R O w hr0 hc0 hr1 hc1 hr2 hc2 (by omega) kR kO kB kY kQ k1 k2 k3 kS kR1 kO1 (bldR s).1 (bldR s).2.1 (bldR s).2.2 (readR R O).1 (readR R O).2 (seqC s) hkR hkO rfl hkB
        (by rw [rack_Read.f, if_pos ⟨⟨by omega, by omega⟩, by omega, by omega⟩]) hkY (rackSeq_eq s) hkQ (copied_eq lR rR) (copied_eq lO rO) hkS hkR1 hkO1 hk1 hk2 hk3
end Go.Proofs.Ytpbemjdaanlaoaa.Pr
