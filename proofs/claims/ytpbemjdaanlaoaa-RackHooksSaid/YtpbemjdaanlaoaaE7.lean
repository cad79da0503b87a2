import Derived.Test.YtpbemjdaanlaoaaN7
import Derived.Test.YtpbemjdaanlaoaaN6
import Derived.Deep.DeepCutAuto
set_option linter.unusedVariables false
set_option linter.unusedSimpArgs false
namespace Go.Proofs.Ytpbemjdaanlaoaa.Pr
open Go.RowKit Go.Proofs.YtpbemjdaanlaoaaW.PrintWords Go.Proofs.YtpbemjdaanlaoaaW.PrintLast Go.Proofs.YtpbemjdaanlaoaaW.PrintMore
open Go.Maps
set_option maxRecDepth 100000

theorem pS_inv {s : List Int} (hs : ∀ x ∈ s, wfi x) : ∀ k, okL k (pS s k).1 ∧ (pS s k).1.length ≤ k ∧ lenL k (pS s k).2.1 ∧ (pS s k).2.1.length ≤ k ∧ (pS s k).2.2.length = k
  | 0 => ⟨fun r hr => by simp [pS] at hr, Nat.le_refl _, fun r hr => by simp [pS] at hr, Nat.le_refl _, rfl⟩
  | k + 1 => by
    obtain ⟨i1, i2, i3, i4, i5⟩ := pS_inv hs k
    obtain ⟨j, hj, h1, h2, h3⟩ := putL_size i1 (rd_wfi hs k)
    refine ⟨h3, ?_, addO_lenL i3 _ _, ?_, ?_⟩
    · show (putL (pS s k).1 (rd s (k : Int))).1.length ≤ k + 1
      rw [h2]; split <;> omega
    · show (addO (pS s k).2.1 (putL (pS s k).1 (rd s (k : Int))).2.2.toNat (k : Int)).length ≤ k + 1
      rw [addO_len]; split <;> omega
    · show ((pS s k).2.2 ++ [_]).length = k + 1
      simp [i5]

set_option maxHeartbeats 4000000 in
theorem piles74 (A : Option Addr) (c : Nat) (s : List Int) (w : World) (hs : ∀ x ∈ s, wfi x) (hl : s.length ≤ 12) (hok : ∀ k, k < s.length → pilesOk s k) (hr : Kd.C (Kd.int .i64) w A s.length s) :
    Calls Try.prog 74 #[.slice A s.length c] w fun e w' => ∃ v0_ v1_ : Value, e = .returned (.tuple #[v0_, v1_]) ∧ (∃ Q : Nat → Prop, Kd.S (Kd.slice 3 (Kd.int .i64)) 32 w' w.heap.size (fun q => ¬ Q q) v0_ (pS s s.length).2.1 ∧ Kd.R (Kd.int .i64) 3 w' w.heap.size Q v1_ (pS s s.length).2.2) ∧ Below w.heap.size w w' := by
  have h43 : ∀ w1, Calls Try.prog 43 #[.slice none 0 0] w1 fun e w' => ∃ g bm n D v, e = .returned (.pointer (some ⟨g, 0, none⟩)) ∧ StandAt w' w1.heap.size g bm n D v [] ∧ HasP D (plF [] 0 0) ∧ n ≤ 1000 ∧ Below w1.heap.size w1 w' := fun w1 =>
    newStand43 none 0 [] w1 (by simp) (by simp) (fun x hx => by simp at hx) ⟨rfl, by simp, fun h => absurd h (by simp)⟩
  have H43 := Lib.hid h43; have HR0 := Lib.hid hr; have HWF := Lib.hid hs; have HOKP := Lib.hid hok
  clear h43 hr hs hok
  go_enter Try.func74, Try.ntmps74
  go_wp2_with (go_at_call 43; refine (H43.out _).mono ?_; rintro e w2 ⟨g, bm, n0, D0, v0, rfl, hS, _, hn0, hb2⟩; have HSt0 := Lib.hid hS; have HB0 := Lib.hid hb2; clear hS hb2)
  go_loopw [4, 5, 15] (fun o b i wr => ∃ (k n : Nat) (D : DataW Unit) (v : Value) (O Q : Nat → Prop), k ≤ s.length ∧ i = .int .i64 k ∧ Hid (StandO O wr w.heap.size g bm n D v (pS s k).1) ∧ Hid (Kd.S (Kd.slice 3 (Kd.int .i64)) 32 wr w.heap.size (fun q => ¬ O q ∧ ¬ Q q) o (pS s k).2.1) ∧ Hid (Kd.R (Kd.int .i64) 3 wr w.heap.size (fun q => ¬ O q ∧ Q q) b (pS s k).2.2) ∧ Hid (∀ q, wr.heap.size ≤ q → ¬ Q q) ∧ n ≤ 1000 + 100 * k ∧ Hid (∀ q, O q → w.heap.size ≤ q) ∧ Hid (Below w.heap.size w wr)) (fun _ _ i _ => s.length - (intOf i).toNat)
  case atStart =>
    exact ⟨0, n0, D0, v0, fun q => w.heap.size ≤ q, fun _ => False, Nat.zero_le _, rfl, HSt0.out.toO, Kd.S_nil _ _ _ _ _, Kd.R_nil _ _ _ _ _, fun _ _ h => h, hn0, fun q hq => hq, HB0⟩
  case round =>
    obtain ⟨k, n, D, v, O, Q, hk, rfl, HSt, HO, HQ, HQn, hn, HOB, HB⟩ := hrel
    obtain ⟨i1, i2, i3, i4, i5⟩ := pS_inv HWF.out k
    by_cases hlt : k < s.length
    · have hps : pS s (k + 1) = ((putL (pS s k).1 (rd s (k : Int))).1, addO (pS s k).2.1 (putL (pS s k).1 (rd s (k : Int))).2.2.toNat (k : Int), (pS s k).2.2 ++ [oldOf (pS s k).2.1 (putL (pS s k).1 (rd s (k : Int))).2.2]) := rfl
      obtain ⟨p1, p2, p3⟩ := HOKP.out k hlt
      generalize pS s k = p at *
      obtain ⟨rows, out, bef⟩ := p
      simp only at i1 i2 i3 i4 i5 hps HSt HO HQ p1 p2 p3
      obtain ⟨ad, rfl, hcell⟩ := Kd.at_int (Kd.C_below HR0.out HB.out) (k : Int) (by omega) (by omega)
      rw [Int.toNat_natCast] at hcell
      have hx := rd_wfi HWF.out k
      obtain ⟨x, hxe⟩ : ∃ x, x = rd s (k : Int) := ⟨_, rfl⟩
      rw [← hxe] at hcell hx hps p1 p2 p3
      clear hxe
      have hput := put52o O w.heap.size g bm n D v rows x wr HSt.out HB.out.size (by omega) (by omega) hx (i1.okR (by omega))
      generalize (putL rows x).1 = rows' at *
      generalize (putL rows x).2.1 = rr at *
      obtain ⟨z, hz⟩ : ∃ z : Nat, (putL rows x).2.2 = (z : Int) := ⟨(putL rows x).2.2.toNat, by omega⟩
      rw [hz] at hput hps p2 p3
      rw [Int.toNat_natCast] at hps
      have HPUT := Lib.hid hput; have HPS := Lib.hid hps; have HI3 := Lib.hid i3; have HX := Lib.hid hx; have HI5 := Lib.hid i5
      have hzo : z ≤ out.length := by omega
      have hol : out.length ≤ 1000 := by omega
      have hblb : (bef.length + 1) * 8 ≤ 140737488355328 := by omega
      have hbl0 : (out.length + 1) * 24 ≤ 140737488355328 := by omega
      have hkk : k ≤ 12 := by omega
      have hn1000 : n ≤ 10000 := by omega
      have hrl : rows.length ≤ 12 := by omega
      have hz1000 : z ≤ 1000 := by omega
      obtain ⟨Ao, co, rfl⟩ := Kd.S_slice HO.out
      obtain ⟨Ab, cb, rfl⟩ := Kd.R_slice HQ.out
      have hadd : ∀ o2, (o2 = if z = out.length then out ++ [[]] else out) → addO out z (k : Int) = o2.set z (rd_L1 o2 (z : Int) ++ [(k : Int)]) := fun o2 h => by unfold addO; rw [h]
      have HADD := Lib.hid hadd
      clear hput hps i1 i3 i5 hx hz p1 p2 hadd
      have HP3 := Lib.hid p3
      clear p3
      go_upto_if 27 with ((with_reducible refine HPUT.out.mono ?_); rintro e w1 ⟨n', D', v', rfl, hS1, hn1, hK1⟩; obtain ⟨O2, hs1, hs2, hs3, hs4, hs5⟩ := stand_step hS1 hK1 HOB.out HB.out.size; have HST1 := Lib.hid hs1; have HOB2 := Lib.hid hs2; have HON := Lib.hid hs3; have HB1 := Lib.hid (HB.out.trans hs5); have HBW := Lib.hid HB1.out.size; have HSZ1 := Lib.hid hK1.size; have hO1 : Kd.S (Kd.slice 3 (Kd.int .i64)) 32 w1 w.heap.size (fun q => (¬ O2 q ∧ ¬ Q q) ∧ q < w1.heap.size) (.slice Ao out.length co) out := (Kd.S_mono (Kd.S_step (Kd.S_bound HO.out) (fun q hq hlt => (hs4 q hq.1.1 hlt).2)) (fun q hq => ⟨⟨(hs4 q hq.1.1 hq.2.2.1).1, hq.1.2⟩, by have h1 := hq.2.2.1; have h2 := HSZ1.out; omega⟩)); have hQ1 : Kd.R (Kd.int .i64) 3 w1 w.heap.size (fun q => (¬ O2 q ∧ Q q) ∧ q < w1.heap.size) (.slice Ab bef.length cb) bef := (Kd.R_mono (Kd.R_step (Kd.R_bound HQ.out) (fun q hq hlt => (hs4 q hq.1.1 hlt).2)) (fun q hq => ⟨⟨(hs4 q hq.1.1 hq.2.2.1).1, hq.1.2⟩, by have h1 := hq.2.2.1; have h2 := HSZ1.out; omega⟩)); have HO1 := Lib.hid hO1; have HQ1 := Lib.hid hQ1; clear hS1 hK1 hs1 hs2 hs3 hs4 hs5 hO1 hQ1)
      obtain ⟨old, hold⟩ : ∃ old, old = oldOf out (z : Int) := ⟨_, rfl⟩
      have HOLD := Lib.hid hold
      go_cut [11] (fun s11 wx => s11 = .int .i64 old ∧ ∃ m, wx = w1.drewN m)
      case first =>
        clear hold
        by_cases hz0 : 0 < z
        · obtain ⟨y, rfl⟩ : ∃ y, z = y + 1 := ⟨z - 1, by omega⟩
          have hlen := HP3.out (by omega)
          have hRd := (Kd.S_reads' HO1.out).2.2
          obtain ⟨ado, A3, c3, rfl, q1, q2, q3⟩ := at_L1 hRd (y : Int) (by omega) (by omega)
          rw [show (((y + 1 : Nat) : Int) - 1) = (y : Int) by omega] at hlen
          rw [Int.toNat_natCast] at q1
          obtain ⟨row, hrow⟩ : ∃ row, row = rd_L1 out (y : Int) := ⟨_, rfl⟩
          rw [← hrow] at hlen q1 q2 q3
          have hro : old = rd row ((row.length : Int) - 1) := by
            rw [HOLD.out]
            unfold oldOf
            rw [if_pos (by omega), show (((y + 1 : Nat) : Int) - 1) = (y : Int) by omega, ← hrow]
          have hrl2 : row.length ≤ 1000 := by rw [hrow]; exact Nat.le_trans (lenL_at HI3.out _) (by omega)
          obtain ⟨l, hl⟩ : ∃ l, row.length = l + 1 := ⟨row.length - 1, by omega⟩
          obtain ⟨adr, hadr, q4⟩ := Kd.at_int q3 (l : Int) (by omega) (by omega)
          subst hadr
          rw [Int.toNat_natCast] at q4
          rw [hl] at q1 q2
          rw [hl, show (((l + 1 : Nat) : Int) - 1) = (l : Int) by omega] at hro
          rw [← hro] at q4
          have hyl : y < out.length := by omega
          have hl1000 : l ≤ 1000 := by omega
          have e1 : IntKind.i64.wrap (y : Int) = (y : Int) := IntWalk.i64_in _ (by omega)
          have e2 : IntKind.i64.wrap (l : Int) = (l : Int) := IntWalk.i64_in _ (by omega)
          clear hrow hro q3 hRd hlen hl hrl2 hz0
          go_wp2
          go_quiet (fail)
          go_wp2
          go_meet
          exact ⟨rfl, nq, rfl⟩
        · obtain rfl : z = 0 := by omega
          have h0 : old = -1 := by rw [HOLD.out]; rfl
          go_wp2
          go_meet
          exact ⟨by rw [h0], 0, rfl⟩
      case rest =>
        obtain ⟨rfl, m, rfl⟩ := hcut
        clear hold
        have hbm : Below w1.heap.size w1 (w1.drewN m) := pw_below_drewN (Below.refl _ _) m
        have hsm : (w1.drewN m).heap.size = w1.heap.size := rfl
        have HSTX := Lib.hid (HST1.out.below hbm)
        have HOX : Hid (Kd.S (Kd.slice 3 (Kd.int .i64)) 32 (w1.drewN m) w.heap.size (fun q => (¬ O2 q ∧ ¬ Q q) ∧ q < (w1.drewN m).heap.size) (.slice Ao out.length co) out) := Lib.hid (Kd.S_below HO1.out hbm)
        have HQX : Hid (Kd.R (Kd.int .i64) 3 (w1.drewN m) w.heap.size (fun q => (¬ O2 q ∧ Q q) ∧ q < (w1.drewN m).heap.size) (.slice Ab bef.length cb) bef) := Lib.hid (Kd.R_below HQ1.out hbm)
        have HBX := Lib.hid (HB1.out.trans (hbm.mono HBW.out))
        have HONX : Hid (∀ q, (w1.drewN m).heap.size ≤ q → ¬ O2 q) := HON
        clear hbm hsm
        generalize w1.drewN m = WX at *
        go_upto_if 49 with ((with_reducible refine gate_builtin (b := .append) (xs := #[.tmp 42, .tmp 44]) rfl ?_); at_builtin; refine Kd.R_append (Kd.int .i64) (w0 := WX) w.heap.size rfl (.tmp 42) (.tmp 44) 32 3 (.int .i64 0) 8 rfl Try.underlying32 info3 rfl (by decide) (by omega) (.slice Ab bef.length cb) bef old [.int .i64 old] (fun q => ¬ O2 q ∧ (Q q ∨ WX.heap.size ≤ q)) (fun _ => False) rfl rfl rfl (fun _ h => h.elim) (fun q hq => ⟨HONX.out q hq, .inr hq⟩) (Kd.R_mono HQX.out (fun q hq => ⟨hq.1.1, .inl hq.1.2⟩)) (Below.refl _ _) HBX.out.size hblb ?_; intro vb w3 hRb hbb hgb hatb; obtain ⟨Ab3, cb3, rfl⟩ := Kd.R_slice hRb; have HSZ3 := Lib.hid hgb.size; have HST3 := Lib.hid (HSTX.out.grown hgb (fun q e => (HQX.out.1 q e).1.1)); obtain ⟨Q3, hQ3⟩ : ∃ Q3 : Nat → Prop, Q3 = fun q => (Q q ∨ WX.heap.size ≤ q) ∧ q < w3.heap.size := ⟨_, rfl⟩; have HO3 : Hid (Kd.S (Kd.slice 3 (Kd.int .i64)) 32 w3 w.heap.size (fun q => ¬ O2 q ∧ ¬ Q3 q) (.slice Ao out.length co) out) := Lib.hid (Kd.S_mono (Kd.S_grown HOX.out hgb (fun q hq e => hq.1.2 (HQX.out.1 q e.symm).1.2)) (fun q hq => ⟨hq.1.1, by rw [hQ3]; exact fun e => e.1.elim hq.1.2 (fun e2 => by have := hq.2; omega)⟩)); have HQ3 : Hid (Kd.R (Kd.int .i64) 3 w3 w.heap.size (fun q => ¬ O2 q ∧ Q3 q) (.slice Ab3 (bef ++ [old]).length cb3) (bef ++ [old])) := Lib.hid (Kd.R_mono (Kd.R_bound hRb) (fun q hq => ⟨hq.1.1, by rw [hQ3]; exact ⟨hq.1.2, hq.2.2.1⟩⟩)); have HQN3 : Hid (∀ q, w3.heap.size ≤ q → ¬ Q3 q) := Lib.hid (fun q hq => by rw [hQ3]; exact fun e => by have := e.2; omega); have HON3 : Hid (∀ q, w3.heap.size ≤ q → ¬ O2 q) := Lib.hid (fun q hq => HONX.out q (Nat.le_trans HSZ3.out hq)); have HB3 := Lib.hid (HBX.out.trans (hbb.mono (Nat.le_refl _))); have HBW3 := Lib.hid HB3.out.size; clear hRb hbb hgb hatb hQ3)
        go_cut [4] (fun s4 wx => ∃ (o2 : List (List Int)) (go cap : Nat), s4 = .slice (some ⟨go, 0, none⟩) o2.length cap ∧ Hid (z < o2.length) ∧ Hid (addO out z (k : Int) = o2.set z (rd_L1 o2 (z : Int) ++ [(k : Int)])) ∧ Hid ((rd_L1 o2 (z : Int)).length ≤ 1000) ∧ o2.length ≤ 1000 ∧ Hid (StandO O2 wx w.heap.size g bm n' D' v' rows') ∧ Hid (Kd.S (Kd.slice 3 (Kd.int .i64)) 32 wx w.heap.size (fun q => ¬ O2 q ∧ ¬ Q3 q) (.slice (some ⟨go, 0, none⟩) o2.length cap) o2) ∧ Hid (Kd.R (Kd.int .i64) 3 wx w.heap.size (fun q => ¬ O2 q ∧ Q3 q) (.slice Ab3 (bef ++ [old]).length cb3) (bef ++ [old])) ∧ Hid (Below w.heap.size w wx) ∧ Hid (w3.heap.size ≤ wx.heap.size))
        case first =>
          by_cases hze : z = out.length
          · have hzb2 : ((z : Int) == ((out.length : Nat) : Int)) = true := beq_iff_eq.2 (by omega)
            have HZE := Lib.hid hze
            clear hze
            go_wp2_with ((with_reducible refine gate_builtin (b := .append) (xs := #[.tmp 50, .tmp 51]) rfl ?_); at_builtin; refine Kd.S_append (Kd.slice 3 (Kd.int .i64)) (w0 := w3) w.heap.size rfl (.tmp 50) (.tmp 51) 22 32 (.slice none 0 0) 24 rfl Try.underlying22 info32 rfl (by decide) (by omega) (.slice Ao out.length co) out [] [.slice none 0 0] (fun q => ¬ O2 q ∧ ¬ Q3 q) (fun _ => False) rfl rfl (Kd.M_row (Kd.R_nil _ _ _ _ _)) (fun _ h => h.elim) (fun q hq => ⟨HON3.out q hq, HQN3.out q hq⟩) (Kd.S_mono HO3.out (fun q hq => ⟨hq, id⟩)) (Below.refl _ _) HBW3.out hbl0 ?_; intro v4 w4 hS4 hb4 hg4 hat4; have HST4 := Lib.hid (HST3.out.grown hg4 (fun q e => (Kd.S_R HO3.out |>.1 q e).1)); have HQ4 := Lib.hid (Kd.R_grown HQ3.out hg4 (fun q hq e => (Kd.S_R HO3.out |>.1 q e.symm).2 hq.2)); have HB4 := Lib.hid (HB3.out.trans hb4); have HSZ4 := Lib.hid hg4.size; obtain ⟨go, cap, rfl, _⟩ := Kd.S_form hS4 (by simp); have HO4 := Lib.hid hS4; clear hS4 hb4 hg4 hat4)
            go_meet
            refine ⟨out ++ [[]], go, cap, by rw [List.length_append]; rfl, ?_, HADD.out _ (by rw [if_pos HZE.out]), ?_, by simp; omega, HST4, HO4, HQ4, HB4, HSZ4⟩
            · show _ < _
              rw [List.length_append, HZE.out]; simp
            · have h1 : lenL 1000 (out ++ [[]]) := (fun r hr => (List.mem_append.1 hr).elim (fun h => Nat.le_trans (HI3.out r h) (by omega)) (fun h => by rw [List.mem_singleton.1 h]; simp))
              exact lenL_at h1 _
          · have hzb2 : ((z : Int) == ((out.length : Nat) : Int)) = false := beq_eq_false_iff_ne.2 (by omega)
            have hpos : 0 < out.length := by omega
            have HZLT := Lib.hid (show z < out.length by omega)
            have HADD2 := HADD.out out (by rw [if_neg hze])
            clear hze
            obtain ⟨go, cap, hv, _⟩ := Kd.S_form HO3.out hpos
            injection hv with hv1 _ hv3
            subst hv1 hv3
            have HADD3 := Lib.hid HADD2
            clear HADD2
            go_wp2
            go_meet
            exact ⟨out, go, co, rfl, HZLT, HADD3, Lib.hid (Nat.le_trans (lenL_at HI3.out _) (by omega)), by omega, HST3, HO3, HQ3, HB3, Lib.hid (Nat.le_refl _)⟩
        case rest =>
          obtain ⟨o2, go, cap, rfl, HZL, HADD2, HRL, ho2l, HST4, HO4, HQ4, HB4, HSZ4⟩ := hcut
          have hzl := HZL.out
          obtain ⟨vk, q1, oki, hRk, hoki, hHk⟩ := S_elem HO4.out z hzl
          obtain ⟨row, hrow⟩ : ∃ row, row = rd_L1 o2 (z : Int) := ⟨_, rfl⟩
          rw [← hrow] at hRk
          have hrowl : row.length ≤ 1000 := by rw [hrow]; exact HRL.out
          obtain ⟨Ak, ck, rfl, hck, hCk⟩ := Kd.R_reads hRk
          have HFIN : Hid (∀ w5 A9 c9, Kd.R (Kd.int .i64) 3 w5 wc.heap.size (fun q => wc.heap.size ≤ q) (.slice A9 (row.length + 1) c9) (row ++ [(k : Int)]) → Below wc.heap.size wc w5 →
              (Hid (StandO O2 (w5.setCell ⟨go, z, none⟩ (.slice A9 (row.length + 1) c9)) w.heap.size g bm n' D' v' rows') ∧ Hid (Kd.S (Kd.slice 3 (Kd.int .i64)) 32 (w5.setCell ⟨go, z, none⟩ (.slice A9 (row.length + 1) c9)) w.heap.size (fun q => ¬ O2 q ∧ ¬ Q3 q) (.slice (some ⟨go, 0, none⟩) o2.length cap) (o2.set z (row ++ [(k : Int)]))) ∧ Hid (Kd.R (Kd.int .i64) 3 (w5.setCell ⟨go, z, none⟩ (.slice A9 (row.length + 1) c9)) w.heap.size (fun q => ¬ O2 q ∧ Q3 q) (.slice Ab3 (bef.length + 1) cb3) (bef ++ [old])) ∧ Hid (∀ q, (w5.setCell ⟨go, z, none⟩ (.slice A9 (row.length + 1) c9)).heap.size ≤ q → ¬ Q3 q) ∧ Hid (Below w.heap.size w (w5.setCell ⟨go, z, none⟩ (.slice A9 (row.length + 1) c9))))) := by
            intro w5 A9 c9 hr5 hb45
            rw [show row.length + 1 = (row ++ [(k : Int)]).length by simp] at hr5 ⊢
            have hQF := HQ4.out
            rw [show (bef ++ [old]).length = bef.length + 1 by simp] at hQF
            obtain ⟨_, y2, y3, y4, hS5⟩ := S_elem_back HO4.out hzl hRk hoki hHk (Kd.R_mono (Kd.R_lower hr5 HB4.out.size) (fun q hq => .inr ⟨⟨HON3.out q (Nat.le_trans HSZ4.out hq), HQN3.out q (Nat.le_trans HSZ4.out hq)⟩, hq⟩)) (grown_of_below hb45 _)
            refine ⟨(HST4.out.below hb45).keep (fun q ho hlt => Below.heap_setCell w5 ⟨go, z, none⟩ _ q (fun e => y4.1 (show O2 go from (show q = go from e) ▸ ho))), hS5, Kd.R_far (p := ⟨go, z, none⟩) (Kd.R_below hQF hb45) (fun q hq e => y4.2 (show Q3 go from (show q = go from e) ▸ hq.2)) _, fun q hq => HQN3.out q ?_, (HB4.out.trans (hb45.mono HB4.out.size)).setCell (p := ⟨go, z, none⟩) y3 _⟩
            have h1 := hb45.size
            have h2 := HSZ4.out
            have h3 : w5.heap.size ≤ q := by simpa [World.setCell] using hq
            omega
          have HE1 : Hid ((pS s (k + 1)).1 = rows') := Lib.hid (by rw [HPS.out])
          have HE2 : Hid ((pS s (k + 1)).2.1 = o2.set z (row ++ [(k : Int)])) := Lib.hid (by rw [HPS.out]; show addO out z (k : Int) = _; rw [HADD2.out, hrow])
          have HE3 : Hid ((pS s (k + 1)).2.2 = bef ++ [old]) := Lib.hid (by rw [HPS.out]; show bef ++ [oldOf out (z : Int)] = _; rw [HOLD.out])
          have HFR : Hid (wc.frozen? ⟨go, z, none⟩ = false) := by
            obtain ⟨cells, hty⟩ := Kd.S_typed HO4.out go (by simp [Value.ownBlock])
            exact blk_frozenA hty z
          have hgolt : go < wc.heap.size := Kd.S_lt HO4.out go (by simp [Value.ownBlock])
          have HGL := Lib.hid hgolt
          have HCKD := Lib.hid (Kd.C_drew hCk); have HCK := Lib.hid hCk; have HROW := Lib.hid hrow
          have q1d : wc.drew.cell? ⟨go, z, none⟩ = some (.slice Ak row.length ck) := pw_cell_below ((Below.refl _ _).drew) q1
          have q1a : ∀ o, (wc.alloc o).cell? ⟨go, z, none⟩ = some (.slice Ak row.length ck) := fun o => cell_al o q1
          have q1b : ∀ o, (wc.drew.alloc o).cell? ⟨go, z, none⟩ = some (.slice Ak row.length ck) := fun o => cell_al o q1d
          have HQ1 := Lib.hid q1
          clear hRk hoki hHk hCk hrow hgolt
          go_wp2
          go_region_law
            (first
              | (refine R_grow_step (W := wc.drew) rfl (.tmp 69) (.tmp 71) rfl Ak row ((k : Nat) : Int) rfl rfl HCKD.out hrowl ?_
                 intro v5 w5 hr5 hb5
                 obtain ⟨A9, c9, rfl⟩ := Kd.R_slice hr5
                 have hb45 : Below wc.heap.size wc w5 := Below.trans ((Below.refl _ _).drew) hb5
                 have y1 := pw_cell_below hb45 HQ1.out
                 have y2 : w5.frozen? ⟨go, z, none⟩ = false := (hb45.frozen (p := ⟨go, z, none⟩) HGL.out).trans HFR.out
                 rw [show (row ++ [((k : Nat) : Int)]).length = row.length + 1 by simp] at hr5
                 have HF5 := Lib.hid (HFIN.out w5 A9 c9 hr5 hb45)
                 clear hr5 hb5 hb45))
          all_goals
            clear q1 q1d q1a q1b
            obtain ⟨F1, F2, F3, F4, F5⟩ := HF5.out
            go_wp2
            exact ⟨⟨k + 1, n', D', v', O2, Q3, by omega, by go_num, by rw [HE1.out]; exact F1, by rw [HE2.out]; exact F2, by rw [HE3.out]; exact F3, F4, by omega, HOB2, F5⟩, by simp [intOf]; omega⟩
    · obtain rfl : k = s.length := by omega
      obtain ⟨Ao, co, rfl⟩ := Kd.S_slice HO.out
      obtain ⟨Ab, cb, rfl⟩ := Kd.R_slice HQ.out
      clear i1 i2 i3 i4 i5
      go_wp2
      go_ret2
      exact ⟨_, _, rfl, ⟨Q, Kd.S_mono HO.out (fun q hq => hq.2), Kd.R_mono HQ.out (fun q hq => hq.2)⟩, HB.out⟩
end Go.Proofs.Ytpbemjdaanlaoaa.Pr
