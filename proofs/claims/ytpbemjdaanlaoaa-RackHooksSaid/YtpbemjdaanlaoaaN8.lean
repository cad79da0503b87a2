/- Lemmas for the laws of rack: E8, RM, G0, G1. -/
import Derived.Test.YtpbemjdaanlaoaaE7
import Derived.Test.YtpbemjdaanlaoaaPr0
import Derived.Test.YtpbemjdaanlaoaaPr1
import Derived.Test.YtpbemjdaanlaoaaN0
import Derived.Test.YtpbemjdaanlaoaaN1
set_option linter.unusedVariables false
set_option linter.unusedSimpArgs false
set_option linter.unusedVariables false
set_option linter.unusedSimpArgs false
namespace Go.Proofs.Ytpbemjdaanlaoaa.Pr
open Go.RowKit Go.Proofs.YtpbemjdaanlaoaaW.PrintWords Go.Proofs.YtpbemjdaanlaoaaW.PrintLast Go.Proofs.YtpbemjdaanlaoaaW.PrintMore
open Go.Maps
attribute [local go_sem] max2_int min2_int max_two min_two
set_option maxRecDepth 100000

theorem add_zero_ (a : Addr) : a.add ((0 : Int).toNat) = a := by
  cases a with
  | mk b o p => cases p <;> simp [Addr.add]
def upS (bef : List Int) (m : Nat) (a0 : Int) : Nat → List Int × Int
  | 0 => (List.replicate m 0, a0)
  | j + 1 => ((upS bef m a0 j).1.set (m - 1 - j) (upS bef m a0 j).2, mx 0 (rd bef (upS bef m a0 j).2))
theorem upS_len (bef : List Int) (m : Nat) (a0 : Int) : ∀ j, (upS bef m a0 j).1.length = m
  | 0 => by simp [upS]
  | j + 1 => by simp [upS, upS_len bef m a0 j]

set_option maxHeartbeats 4000000 in
theorem rising37 (A0 : Option Addr) (c0 : Nat) (s : List Int) (w : World) (hr0 : Kd.C (Kd.int .i64) w A0 s.length s) (hc0 : s.length ≤ c0) (hseq : seqC s = 0) (hok : ∀ k, k < s.length → pilesOk s k)
    (l : List (List Int)) (bef : List Int) (hl : (pS s s.length).2.1 = l) (hb : (pS s s.length).2.2 = bef) (m : Nat) (hm : l.length = m + 1) (hlast : 0 < (rd_L1 l (m : Int)).length) (a0 : Int) (ha : rd (rd_L1 l (m : Int)) 0 = a0)
    (hat : ∀ j, j < m + 1 → 0 ≤ (upS bef (m + 1) a0 j).2 ∧ (upS bef (m + 1) a0 j).2 < bef.length) :
    Calls Try.prog 37 #[.slice A0 s.length c0] w fun e w' => ∃ v0_ : Value, e = .returned (.tuple #[v0_, .int .i64 0]) ∧ Kd.R (Kd.int .i64) 3 w' w.heap.size (fun _ => True) v0_ (upS bef (m + 1) a0 (m + 1)).1 ∧ Below w.heap.size w w' := by
  have h23 := checkSeq23 A0 c0 s w hr0 hc0
  rw [hseq] at h23
  obtain ⟨hl12, hwi⟩ := seqC_ok hseq
  have hwf : ∀ x ∈ s, wfi x := fun x hx => wfi_of (by have := within_true hwi x hx; omega)
  have h74 : ∀ w1, Below w.heap.size w w1 → Calls Try.prog 74 #[.slice A0 s.length c0] w1 fun e w' => ∃ v0_ v1_ : Value, e = .returned (.tuple #[v0_, v1_]) ∧ (∃ Q : Nat → Prop, Kd.S (Kd.slice 3 (Kd.int .i64)) 32 w' w1.heap.size (fun q => ¬ Q q) v0_ l ∧ Kd.R (Kd.int .i64) 3 w' w1.heap.size Q v1_ bef) ∧ Below w1.heap.size w1 w' := fun w1 hB => by
    have := piles74 A0 c0 s w1 hwf hl12 hok (Kd.C_below hr0 hB)
    rw [hl, hb] at this; exact this
  have hinv := pS_inv hwf s.length
  rw [hl, hb] at hinv
  have hbl : bef.length ≤ 12 := by omega
  have hm12 : m + 1 ≤ 12 := by omega
  have hrow1 : (rd_L1 l (m : Int)).length ≤ 1000 := Nat.le_trans (lenL_at hinv.2.2.1 _) (by omega)
  obtain ⟨row, hrow⟩ : ∃ row, row = rd_L1 l (m : Int) := ⟨_, rfl⟩
  rw [← hrow] at hlast ha hrow1
  have H23 := Lib.hid h23; have H74 := Lib.hid h74; have HAT := Lib.hid hat; have HM := Lib.hid hm; have HROW := Lib.hid hrow; have HA := Lib.hid ha
  clear h23 h74 hr0 hseq hwi hwf hok hl hb hinv hat hrow ha
  go_enter Try.func37, Try.ntmps37
  go_wp2_with (first
    | (go_at_call 23; refine H23.out.mono ?_; rintro e w1 ⟨rfl, hb1⟩; have HB1 := Lib.hid hb1; clear hb1)
    | ((with_reducible refine gate_dst (N := 25) rfl ?_); refine Kd.R_make (Kd.int .i64) w.heap.size 3 rfl (N := 25) rfl 32 _ _ rfl ((m + 1 : Nat) : Int) rfl rfl Try.underlying32 (.int .i64 0) 8 info3 rfl (by decide) (by omega) 0 (ok := fun q => w2.heap.size ≤ q) (okp := fun _ => False) rfl (fun _ hk => hk.elim) (Nat.le_refl _) (by omega) (by omega) (Below.refl _ _) HB2.out.size ?_; intro v7 w7 hR7 hb7 hg7 hat7; rw [Int.toNat_natCast] at hR7; have HBZ7 : Hid (Below w2.heap.size w2 w7) := Lib.hid ((Below.refl _ _).grown hg7 (Nat.le_refl _) (fun k e => by cases e)); have hBz : Below w2.heap.size w2 w7 := ((Below.refl _ _).grown hg7 (Nat.le_refl _) (fun k e => by cases e)); have hBef := Kd.C_below HBEF.out hBz; have q1' := pw_cell_below hBz q1; have q4' := pw_cell_below hBz q4; have HB7 := Lib.hid (HB2.out.trans (hBz.mono HB2.out.size)); have HBEF7 := Lib.hid hBef; obtain ⟨A7, c7, rfl⟩ := Kd.R_slice hR7; rw [List.length_replicate] at hR7 ⊢; have HR7 := Lib.hid hR7; have HSZ7 := Lib.hid hBz.size; clear hR7 hb7 hg7 hat7 hBef hBz)
    | (go_at_call 74; refine (H74.out _ HB1.out).mono ?_; rintro e w2 ⟨v1, v2, rfl, ⟨Q, hS2, hR2⟩, hb2⟩; obtain ⟨Al, cl, rfl⟩ := Kd.S_slice hS2; obtain ⟨Ab, cb, rfl⟩ := Kd.R_slice hR2; have HB2 := Lib.hid (HB1.out.trans (hb2.mono HB1.out.size)); have hCl := (Kd.S_reads' hS2).2.2; obtain ⟨ado, A3, c3, rfl, q1, q2, q3⟩ := at_L1 hCl (m : Int) (by omega) (by have := HM.out; omega); rw [Int.toNat_natCast, ← HROW.out] at q1; rw [← HROW.out] at q2 q3; obtain ⟨adr, rfl, q4⟩ := Kd.at_int q3 (0 : Int) (by omega) (by omega); rw [show rd row 0 = a0 from HA.out, add_zero_] at q4; have HBEF := Lib.hid (Kd.R_reads' hR2).2.2; rw [HM.out]; clear hS2 hR2 hb2 hCl q3))
  obtain ⟨go, cap, hv, hg0, _⟩ := Kd.R_form HR7.out (by simp)
  rw [List.length_replicate] at hv
  injection hv with hv1 _ hv3
  subst hv1 hv3
  have HG := Lib.hid (HR7.out.1 go (by simp [Value.ownBlock]))
  have HG0 := Lib.hid hg0
  clear q1 q2 q4 q1' q4' hg0
  go_loopw [8, 36] (fun a i wr => ∃ j : Nat, j ≤ m + 1 ∧ i = .int .i64 j ∧ a = .int .i64 (upS bef (m + 1) a0 j).2 ∧ Hid (Kd.R (Kd.int .i64) 3 wr w.heap.size (fun q => w2.heap.size ≤ q) (.slice (some ⟨go, 0, none⟩) (m + 1) c7) (upS bef (m + 1) a0 j).1) ∧ Hid (Below w2.heap.size w2 wr)) (fun _ i _ => m + 1 - (intOf i).toNat)
  case atStart => exact ⟨0, Nat.zero_le _, rfl, rfl, HR7, HBZ7⟩
  case round =>
    obtain ⟨j, hj, rfl, rfl, HR, HBZ⟩ := hrel
    by_cases hlt : j < m + 1
    · obtain ⟨ha1, ha2⟩ := HAT.out j hlt
      have hnext : upS bef (m + 1) a0 (j + 1) = ((upS bef (m + 1) a0 j).1.set (m - j) (upS bef (m + 1) a0 j).2, mx 0 (rd bef (upS bef (m + 1) a0 j).2)) := by show (_, _) = _; rw [show m + 1 - 1 - j = m - j by omega]
      have hlen := upS_len bef (m + 1) a0 j
      generalize upS bef (m + 1) a0 j = s2 at *
      obtain ⟨out, at_⟩ := s2
      simp only at ha1 ha2 hnext hlen HR
      obtain ⟨ii, hii⟩ : ∃ ii : Nat, ii = m - j := ⟨_, rfl⟩
      rw [← hii] at hnext
      have hmj : (m : Int) - (j : Int) = (ii : Int) := by omega
      have hiim : ii < m + 1 := by omega
      obtain ⟨z1, z2⟩ := Kd.R_celln (0 : Int) HR.out (ii : Int) (by omega) (by omega)
      rw [Int.toNat_natCast] at z1 z2
      have hCb := Kd.C_below HBEF.out HBZ.out
      obtain ⟨ad, hAb, q5⟩ := Kd.at_int hCb at_ ha1 ha2
      obtain ⟨y, hy⟩ : ∃ y, y = rd bef at_ := ⟨_, rfl⟩
      rw [← hy] at q5 hnext
      have hR8 := Kd.R_putn HR.out (ii : Int) at_
      rw [Int.toNat_natCast] at hR8
      have HR8 := Lib.hid hR8; have HN := Lib.hid hnext
      have HB8 := Lib.hid (HBZ.out.setCell (p := ⟨go, ii, none⟩) HG.out (.int .i64 at_))
      have q6 : (wr.setCell ⟨go, ii, none⟩ (.int .i64 at_)).cell? (ad.add at_.toNat) = some (.int .i64 y) := by
        have hq : w2.cell? (ad.add at_.toNat) = some (.int .i64 y) := by
          obtain ⟨ad2, hAb2, q7⟩ := Kd.at_int HBEF.out at_ ha1 ha2
          rw [hAb] at hAb2; injection hAb2 with hAb2; subst hAb2
          rw [hy]; exact q7
        exact pw_cell_below HB8.out hq
      have e1 : wrap64 ((m : Int) - (j : Int)) = (ii : Int) := by unfold wrap64; omega
      subst hAb
      clear hR8 hnext hy q5 hCb hii hlen
      go_wp2
      refine ⟨⟨j + 1, by omega, by go_num, by rw [HN.out]; first | rfl | simp [mx], by rw [HN.out]; exact HR8.out, HB8.out⟩, by simp [intOf]; omega⟩
    · obtain rfl : j = m + 1 := by omega
      go_wp2
      go_ret2
      exact ⟨_, rfl, Kd.R_mono HR.out (fun _ _ => trivial), HB2.out.trans (HBZ.out.mono HB2.out.size)⟩

theorem C_of_headers {w : World} {g n : Nat} {cs : List Value} {l : List (List Int)} (hb : w.heap[g]? = some (.cells cs.toArray 32 (0, 0))) (hl : l.length ≤ 1000) (hn : l.length = n)
    (hc : ∀ j, (hj : j < l.length) → ∃ A c, cs[j]? = some (.slice A l[j].length c) ∧ l[j].length ≤ c ∧ Kd.C (Kd.int .i64) w A l[j].length l[j]) : Kd.C (Kd.slice 3 (Kd.int .i64)) w (some ⟨g, 0, none⟩) n l := by
  refine ⟨hn, by omega, fun _ => ⟨⟨g, 0, none⟩, rfl, fun j p hp => ?_⟩⟩
  obtain ⟨hj, rfl⟩ := List.getElem?_eq_some_iff.1 hp
  obtain ⟨A, c, h1, h2, h3⟩ := hc j hj
  refine ⟨[.slice A l[j].length c], rfl, ⟨A, c, rfl, h2, h3⟩, fun i u hu => ?_⟩
  have hi : i = 0 := by
    rcases Nat.eq_zero_or_pos i with h0 | h0
    · exact h0
    · rw [List.getElem?_eq_none (by simp; omega)] at hu; cases hu
  subst hi
  have hu : u = .slice A l[j].length c := by simpa using hu.symm
  subst hu
  have e : (⟨g, 0, none⟩ : Addr).add (j * (Kd.slice 3 (Kd.int .i64)).sz + 0) = ⟨g, j, none⟩ := by
    simp only [Kd.slice, Nat.mul_one, Nat.add_zero]
    unfold Addr.add; split <;> simp_all
  rw [e]
  simp [World.cell?, hb, h1]
theorem copy_heads {w w7 : World} {base go cap cl : Nat} {Al : Option Addr} {l : List (List Int)} {inner : List Value} (hown : w7.ownsRow base 32 (Kd.slice 3 (Kd.int .i64)).sz (.slice (some ⟨go, 0, none⟩) l.length cap) l.length inner) (hC : Kd.C (Kd.slice 3 (Kd.int .i64)) w Al l.length l) (hB : Below w.heap.size w w7) (hgo : w.heap.size ≤ go) (hpos : 0 < l.length) (hl : l.length ≤ 1000) :
    ∃ W8, (Builtin.copy_ #[22, 22] 3 #[.slice (some ⟨go, 0, none⟩) l.length cap, .slice Al l.length cl]).run Try.prog w7 = .ok (goInt l.length) W8 ∧ Below w.heap.size w W8 ∧ Kd.C (Kd.slice 3 (Kd.int .i64)) W8 (some ⟨go, 0, none⟩) l.length l := by
  obtain ⟨ad, hAl, hcells⟩ := hC.2.2 hpos
  subst hAl
  rcases hown.2 with ⟨hv, _⟩ | ⟨g, cap', cur, hv, hb, hh, hnc, hcm, hcs, htake⟩
  · cases hv
  · injection hv with e1 _ e2
    injection e1 with e1
    injection e1 with e1
    subst e1 e2
    have hhd : ∀ j, (hj : j < l.length) → ∃ A c, w.cell? (ad.add j) = some (.slice A l[j].length c) ∧ l[j].length ≤ c ∧ Kd.C (Kd.int .i64) w A l[j].length l[j] := by
      intro j hj
      obtain ⟨c, hc1, ⟨A, c', rfl, h2, h3⟩, h4⟩ := hcells j l[j] (List.getElem?_eq_getElem hj)
      have := h4 0 _ rfl
      simp only [Kd.slice, Nat.mul_one, Nat.add_zero] at this
      exact ⟨A, c', this, h2, h3⟩
    obtain ⟨cs, hcsd⟩ : ∃ cs : List Value, cs = (List.range l.length).map fun j => (w.cell? (ad.add j)).getD undef := ⟨_, rfl⟩
    have hcl : cs.length = l.length := by rw [hcsd]; simp
    have hcat : ∀ j, (hj : j < l.length) → ∃ A c, cs[j]? = some (.slice A l[j].length c) ∧ w.cell? (ad.add j) = some (.slice A l[j].length c) ∧ l[j].length ≤ c ∧ Kd.C (Kd.int .i64) w A l[j].length l[j] := by
      intro j hj
      obtain ⟨A, c, h1, h2, h3⟩ := hhd j hj
      refine ⟨A, c, ?_, h1, h2, h3⟩
      rw [hcsd, List.getElem?_map, List.getElem?_range hj]
      simp [h1]
    obtain ⟨i0, hi, hz0, hz1, hz2⟩ := info_parts info32
    have hsz : cur.size = cap := by simpa [Kd.slice] using hcs
    have hrun := run_copy_row (P := Try.prog) w7 22 22 3 32 go 0 l.length cap ad l.length cl cur 32 cs Try.underlying22 (by rw [hi]; simp [hz1]) hh (by rw [hcl]; simp) (fun j v hj => by
      obtain ⟨hjl, _⟩ := List.getElem?_eq_some_iff.1 hj
      obtain ⟨A, c, h1, h2, _⟩ := hcat j (by omega)
      rw [hj] at h1
      rw [h1]
      exact pw_cell_below hB h2) (by rw [hcl, hsz]; have := hnc; omega) (fun v hv => by
      obtain ⟨j, hj, rfl⟩ := List.mem_iff_getElem.1 hv
      obtain ⟨A, c, h1, _⟩ := hcat j (by omega)
      rw [List.getElem?_eq_getElem hj] at h1
      injection h1 with h1
      rw [h1]; rfl)
    rw [hcl] at hrun
    have hblk := setRow_heap w7 go cur (cur.toList.take 0 ++ cs ++ cur.toList.drop (0 + cs.length)).toArray 32 (0, 0) hh
    have hB8 : Below w.heap.size w (w7.setRow go (cur.toList.take 0 ++ cs ++ cur.toList.drop (0 + cs.length)).toArray) := by
      refine hB.trans ⟨rfl, rfl, rfl, by simp [World.setRow], fun k hk => ?_⟩
      simp only [World.setRow, Array.getElem?_modify]
      rw [if_neg (by omega)]
    rw [hcl] at hblk hB8
    refine ⟨_, hrun, hB8, C_of_headers hblk hl rfl (fun j hj => ?_)⟩
    obtain ⟨A, c, h1, h2, h3, h4⟩ := hcat j hj
    refine ⟨A, c, ?_, h3, Kd.C_below h4 hB8⟩
    rw [List.take_zero, List.nil_append, List.getElem?_append_left (by omega)]
    exact h1

set_option maxHeartbeats 4000000 in
theorem falls38 (A0 : Option Addr) (c0 : Nat) (s : List Int) (w : World) (hr0 : Kd.C (Kd.int .i64) w A0 s.length s) (hc0 : s.length ≤ c0) (hseq : seqC s = 0) (hok : ∀ k, k < s.length → pilesOk s k)
    (l : List (List Int)) (hl : (pS s s.length).2.1 = l) (hpos : 0 < l.length) :
    Calls Try.prog 38 #[.slice A0 s.length c0] w fun e w' => ∃ (A : Option Addr) (c : Nat), e = .returned (.tuple #[.slice A l.length c, .int .i64 0]) ∧ l.length ≤ c ∧ Kd.C (Kd.slice 3 (Kd.int .i64)) w' A l.length l ∧ Below w.heap.size w w' := by
  have h23 := checkSeq23 A0 c0 s w hr0 hc0
  rw [hseq] at h23
  obtain ⟨hl12, hwi⟩ := seqC_ok hseq
  have hwf : ∀ x ∈ s, wfi x := fun x hx => wfi_of (by have := within_true hwi x hx; omega)
  have h74 : ∀ w1, Below w.heap.size w w1 → Calls Try.prog 74 #[.slice A0 s.length c0] w1 fun e w' => ∃ v0_ v1_ : Value, e = .returned (.tuple #[v0_, v1_]) ∧ (∃ Q : Nat → Prop, Kd.S (Kd.slice 3 (Kd.int .i64)) 32 w' w1.heap.size (fun q => ¬ Q q) v0_ l ∧ Kd.R (Kd.int .i64) 3 w' w1.heap.size Q v1_ (pS s s.length).2.2) ∧ Below w1.heap.size w1 w' := fun w1 hB => by
    have := piles74 A0 c0 s w1 hwf hl12 hok (Kd.C_below hr0 hB)
    rw [hl] at this; exact this
  have hinv := pS_inv hwf s.length
  rw [hl] at hinv
  have hl1000 : l.length ≤ 1000 := by omega
  have H23 := Lib.hid h23; have H74 := Lib.hid h74
  clear h23 h74 hr0 hseq hwi hwf hok hl hinv
  go_enter Try.func38, Try.ntmps38
  go_wp2_with (first
    | (go_at_call 23; refine H23.out.mono ?_; rintro e w1 ⟨rfl, hb1⟩; have HB1 := Lib.hid hb1; clear hb1)
    | ((with_reducible refine gate_dst (N := 20) rfl ?_); refine Kd.R_make (Kd.slice 3 (Kd.int .i64)) w.heap.size 32 rfl (N := 20) rfl 22 _ _ rfl ((l.length : Nat) : Int) rfl rfl Try.underlying22 (.slice none 0 0) 24 info32 rfl (by decide) (by omega) [] (ok := fun q => True) (okp := fun _ => False) (Kd.M_row (Kd.R_nil _ _ _ _ _)) (fun _ hk => hk.elim) trivial (by omega) (by omega) (Below.refl _ _) HB2.out.size ?_; intro v7 w7 hR7 hb7 hg7 hat7; rw [Int.toNat_natCast] at hR7; obtain ⟨inner, hown⟩ := Kd.R_own hR7; have hBz : Below w2.heap.size w2 w7 := ((Below.refl _ _).grown hg7 (Nat.le_refl _) (fun k e => by cases e)); obtain ⟨g7, hg7o, hg7s⟩ := hat7; obtain ⟨go, cap, hv7, hgo, hglt, _⟩ := Kd.R_form hR7 (by simp; exact hpos); rw [List.length_replicate] at hv7 hown; subst hv7; have hcap := (Kd.R_reads' hR7).2.1; have HOWN := Lib.hid hown; have hgs : w2.heap.size ≤ go := (by have h9 : g7 = go := (by simpa [Value.ownBlock] using hg7o.symm); omega); have hCl := Kd.C_below HCL.out hBz; have HBZ := Lib.hid hBz; have HGS := Lib.hid hgs; obtain ⟨W8, hrun8, hB8, hC8⟩ := copy_heads (cl := cl) hown HCL.out HBZ.out hgs hpos hl1000; have HB8 := Lib.hid hB8; have HC8 := Lib.hid hC8; clear hB8 hC8)
    | (go_at_call 74; refine (H74.out _ HB1.out).mono ?_; rintro e w2 ⟨v1, v2, rfl, ⟨Q, hS2, hR2⟩, hb2⟩; obtain ⟨Al, cl, rfl⟩ := Kd.S_slice hS2; obtain ⟨Ab, cb, rfl⟩ := Kd.R_slice hR2; have HB2 := Lib.hid (HB1.out.trans (hb2.mono HB1.out.size)); have HCL := Lib.hid (Kd.S_reads' hS2).2.2; clear hS2 hR2 hb2))
  go_ret2
  exact ⟨_, _, rfl, hcap, HC8.out, HB2.out.trans (HB8.out.mono HB2.out.size)⟩
end Go.Proofs.Ytpbemjdaanlaoaa.Pr
/- Printed out of the translation by the kit's print.py: contracts of rack_checkShape. -/
namespace Go.Proofs.Ytpbemjdaanlaoaa.Pr
open Go.RowKit Go.Proofs.YtpbemjdaanlaoaaW.PrintWords Go.Proofs.YtpbemjdaanlaoaaW.PrintLast Go.Proofs.YtpbemjdaanlaoaaW.PrintMore
attribute [local go_sem] max2_int min2_int max_two min_two max_three min_three max_four min_four   -- for this text's walks alone
set_option linter.unusedVariables false
set_option linter.unusedSimpArgs false
-- BY HAND: function 42 (rack_within)
/-! ### rack_checkShape: function 65 -/
mutual
def rack_checkShape.l0 : Nat → List Int → Int → List Int → Int → Int → Option (Int)
 | 0, _, _, _, _, _ => none
 | k + 1, x0, x3, x11, x12, x13 => if x13 < x12 then (if 0 ≤ x13 then (if x13 < (x11.length : Int) then (rack_checkShape.l0 k x0 (wrap64 (x3 + (rd x11 x13))) x11 x12 (wrap64 (x13 + 1))) else (none)) else (none)) else (if x3 > 12 then (some 6) else (rack_checkShape.l1 k x0 x0 (x0.length : Int) 0))
def rack_checkShape.l1 : Nat → List Int → List Int → Int → Int → Option (Int)
 | 0, _, _, _, _ => none
 | k + 1, x0, x23, x24, x25 => if x25 < x24 then (if 0 ≤ x25 then (if x25 < (x23.length : Int) then (if x25 > 0 then (if 0 ≤ (wrap64 (x25 - 1)) then (if (wrap64 (x25 - 1)) < (x0.length : Int) then (if (rd x23 x25) > (rd x0 (wrap64 (x25 - 1))) then (some 22) else (rack_checkShape.l1 k x0 x23 x24 (wrap64 (x25 + 1)))) else (none)) else (none)) else (rack_checkShape.l1 k x0 x23 x24 (wrap64 (x25 + 1)))) else (none)) else (none)) else (some 0)
end
def rack_checkShape.f (k : Nat) (l0 : List Int) : Option (Int) := (rack_within.f 1 12 l0).bind fun t108 => (if t108 = true then (rack_checkShape.l0 k l0 0 l0 (l0.length : Int) 0) else (some 3))
theorem rack_checkShape.mono_l : ∀ k, (∀ y0 y1 y2 y3 y4, LeO (rack_checkShape.l0 k y0 y1 y2 y3 y4) (rack_checkShape.l0 (k + 1) y0 y1 y2 y3 y4)) ∧ (∀ y0 y1 y2 y3, LeO (rack_checkShape.l1 k y0 y1 y2 y3) (rack_checkShape.l1 (k + 1) y0 y1 y2 y3))
 | 0 => ⟨fun _ _ _ _ _ r h => by simp [rack_checkShape.l0] at h, fun _ _ _ _ r h => by simp [rack_checkShape.l1] at h⟩
 | k + 1 => by
  obtain ⟨ih0, ih1⟩ := rack_checkShape.mono_l k
  refine ⟨?_, ?_⟩
  ·
   intro y0 y1 y2 y3 y4
   unfold rack_checkShape.l0
   repeat' first
   | (with_reducible exact ih0 _ _ _ _ _)
   | (with_reducible exact ih1 _ _ _ _)
   | (with_reducible exact LeO.refl _)
   | (with_reducible exact LeO.none _)
   | (with_reducible refine LeO.ite ?_ ?_)
   | (with_reducible refine LeO.bind ?_ (fun _ => ?_))
   | exact ih0 _ _ _ _ _
   | exact ih1 _ _ _ _
   | exact LeO.none _
   | refine LeO.ite ?_ ?_
   | refine LeO.bind ?_ (fun _ => ?_)
  ·
   intro y0 y1 y2 y3
   unfold rack_checkShape.l1
   repeat' first
   | (with_reducible exact ih0 _ _ _ _ _)
   | (with_reducible exact ih1 _ _ _ _)
   | (with_reducible exact LeO.refl _)
   | (with_reducible exact LeO.none _)
   | (with_reducible refine LeO.ite ?_ ?_)
   | (with_reducible refine LeO.bind ?_ (fun _ => ?_))
   | exact ih0 _ _ _ _ _
   | exact ih1 _ _ _ _
   | exact LeO.none _
   | refine LeO.ite ?_ ?_
   | refine LeO.bind ?_ (fun _ => ?_)
theorem rack_checkShape.mono : ∀ a0 k, LeO (rack_checkShape.f k a0) (rack_checkShape.f (k + 1) a0) := by
 intro a0 k
 obtain ⟨ih0, ih1⟩ := rack_checkShape.mono_l k
 unfold rack_checkShape.f
 repeat' first
   | (with_reducible exact ih0 _ _ _ _ _)
   | (with_reducible exact ih1 _ _ _ _)
   | (with_reducible exact LeO.refl _)
   | (with_reducible exact LeO.none _)
   | (with_reducible refine LeO.ite ?_ ?_)
   | (with_reducible refine LeO.bind ?_ (fun _ => ?_))
   | exact ih0 _ _ _ _ _
   | exact ih1 _ _ _ _
   | exact LeO.none _
   | refine LeO.ite ?_ ?_
   | refine LeO.bind ?_ (fun _ => ?_)
set_option maxHeartbeats 8000000 in
set_option maxRecDepth 100000 in
theorem rack_checkShape.calls (k : Nat) (A0 : Option Addr) (c0 : Nat) (l0 : List Int) (r : Int) (w : World) (hr0 : Kd.C (Kd.int .i64) w A0 l0.length l0) (hc0 : l0.length ≤ c0) (h : rack_checkShape.f k l0 = some r) :
  Calls Try.prog 65 #[.slice A0 l0.length c0] w fun e w' => e = .returned (.int .i64 r) ∧ Below w.heap.size w w' := by
 have HR0 := Aside0.mk hr0
 have HC0 := Aside0.mk hc0
 clear hr0 hc0
 have HB := Aside0.mk (Below.refl w.heap.size w)
 have H : ((rack_within.f 1 12 l0).bind fun t108 => (if t108 = true then (rack_checkShape.l0 k l0 0 l0 (l0.length : Int) 0) else (some 3))) = some r := h
 clear h
 replace H := Option.bind_eq_some_iff.mp H
 obtain ⟨t108, A20, H⟩ := H
 replace H : (if t108 = true then (rack_checkShape.l0 k l0 0 l0 (l0.length : Int) 0) else (some 3)) = some r := H
 have A2 := Aside0.mk A20
 clear A20
 by_cases c3 : t108 = true
 ·
  subst c3
  have H1 : (rack_checkShape.l0 k l0 0 l0 (l0.length : Int) 0) = some r := by rw [if_pos rfl] at H; exact H
  clear H
  have H := H1
  clear H1
  have H' := Aside0.mk H
  clear H
  go_enter Try.func65, Try.ntmps65
  go_wp2_with (first | ((with_reducible refine gate_callee (f := 42) rfl ?_); refine goesL_ (some 9) rfl rfl Try.func42 (by kernel_rfl) rfl #[.int .i64 1, .int .i64 12, .slice A0 l0.length c0] rfl (by (try simp only [List.map_toArray, List.map_cons, List.map_nil]); first | done | rfl | (simp only [List.length_drop, List.length_take]; rfl)) ?_; (with_reducible refine (rack_within.calls 1 12 _ _ l0 true _ ?side1 ?side2 A2.out).mono ?_); (case side1 => repeat (first | exact HR0.out | (with_reducible refine Kd.C_alloc ?_ _) | (with_reducible refine Kd.C_drewN ?_ _) | (with_reducible refine Kd.C_drew ?_))); (case side2 => exact HC0.out); rintro e w4 ⟨rfl, hb⟩; refine ⟨_, rfl, ?_⟩; have n0_ := Aside0.mk (below_step (by repeat (first | (with_reducible first | exact HB.out | apply below_alloc | apply pw_below_drewN | apply below_drew1) | exact HB.out)) hb); clear HB; have HB := n0_; clear n0_; (try clear hb); (try clear hb2); (try clear hk); (try clear hi)))
  go_loopg [3, 13] k (fun kq v3 v13 w' => ∃ (x3_1 : Int) (x13_1 : Int), v3 = .int .i64 x3_1 ∧ v13 = .int .i64 x13_1 ∧ Aside0 (rack_checkShape.l0 kq l0 x3_1 l0 (l0.length : Int) x13_1 = some r) ∧ Aside0 (kq ≤ k) ∧ Aside0 (Below w.heap.size w w'))
  case atStart => exact ⟨(0), (0), (by first | rfl | (simp; done) | (simp [*]; done)), (by first | rfl | (simp; done) | (simp [*]; done)), H', ⟨Nat.le_refl _⟩, ⟨by repeat (first | (with_reducible first | exact HB.out | apply below_alloc | apply pw_below_drewN | apply below_drew1) | exact HB.out)⟩⟩
  case round =>
   clear H'
   try clear p2
   try clear c3
   try clear c4
   obtain ⟨x3_1, x13_1, rfl, rfl, HA, HK1, HB⟩ := hrel
   cases gk with
   | zero => exact absurd HA.out (by simp [rack_checkShape.l0])
   | succ k1 =>
    have H := HA.out
    clear HA
    simp only [rack_checkShape.l0] at H
    by_cases c5 : x13_1 < (l0.length : Int)
    ·
     rw [if_pos c5] at H
     have c5b0 : decide (x13_1 < (l0.length : Int)) = true := decide_eq_true c5
     clear c5
     by_cases c6 : 0 ≤ x13_1
     ·
      rw [if_pos c6] at H
      have c6b0 : decide (0 ≤ x13_1) = true := decide_eq_true c6
      clear c6
      by_cases c7 : x13_1 < (l0.length : Int)
      ·
       rw [if_pos c7] at H
       have c7b0 : decide (x13_1 < (l0.length : Int)) = true := decide_eq_true c7
       clear c7
       have H' := Aside0.mk H
       clear H
       have p109 : 0 ≤ (x13_1 : Int) := of_decide_eq_true (by first | (with_reducible assumption) | assumption)
       have q109 : x13_1 < (l0.length : Int) := of_decide_eq_true (by first | (with_reducible assumption) | assumption)
       obtain ⟨ad109, e109, hx109_0⟩ := Kd.at_int HR0.out x13_1 p109 q109
       cases e109
       replace hx109_0 := (HB.out.cell (World.block_lt_of_cell? w _ hx109_0)).trans hx109_0
       replace p109 := eq_true p109
       replace q109 := eq_true q109
       go_wp2
       go_roundg k1
       case measure => have := HK1.out; omega
       case rel => exact ⟨(wrap64 (x3_1 + (rd l0 x13_1))), (wrap64 (x13_1 + 1)), (by first | rfl | (simp; done) | (simp [*]; done)), (by first | rfl | (simp; done) | (simp [*]; done)), H', ⟨by have := HK1.out; omega⟩, ⟨by repeat (first | (with_reducible first | exact HB.out | apply below_alloc | apply pw_below_drewN | apply below_drew1) | exact HB.out)⟩⟩
      ·
       rw [if_neg c7] at H
       exact absurd H (by simp)
     ·
      rw [if_neg c6] at H
      exact absurd H (by simp)
    ·
     rw [if_neg c5] at H
     have c5b0 : decide (x13_1 < (l0.length : Int)) = false := decide_eq_false c5
     clear c5
     by_cases c8 : x3_1 > 12
     ·
      rw [if_pos c8] at H
      have c8b0 : decide (12 < x3_1) = true := decide_eq_true c8
      clear c8
      obtain rfl := Option.some.inj H
      go_wp2
      go_ret
      exact ⟨by first | rfl | (simp [errW_none, errW_some] <;> rfl) | (simp [*, errW_none, errW_some] <;> rfl), by repeat (first | (with_reducible first | exact HB.out | apply below_alloc | apply pw_below_drewN | apply below_drew1) | exact HB.out)⟩
     ·
      rw [if_neg c8] at H
      have c8b0 : decide (12 < x3_1) = false := decide_eq_false c8
      clear c8
      have H' := Aside0.mk H
      clear H
      go_wp2
      go_loopg [25] k1 (fun kq v25 w' => ∃ (x25_2 : Int), v25 = .int .i64 x25_2 ∧ Aside0 (rack_checkShape.l1 kq l0 l0 (l0.length : Int) x25_2 = some r) ∧ Aside0 (kq ≤ k1) ∧ Aside0 (Below w.heap.size w w'))
      case atStart => exact ⟨(0), (by first | rfl | (simp; done) | (simp [*]; done)), H', ⟨Nat.le_refl _⟩, ⟨by repeat (first | (with_reducible first | exact HB.out | apply below_alloc | apply pw_below_drewN | apply below_drew1) | exact HB.out)⟩⟩
      case round =>
       clear H'
       try clear p1
       try clear q1
       try clear hx1
       try clear p2
       try clear c3
       try clear c4
       try clear c5
       try clear c5b0
       try clear c6
       try clear c6b0
       try clear p6
       try clear c7
       try clear c7b0
       try clear c8
       try clear c8b0
       try clear hx109_0
       try clear p109
       try clear p2
       try clear q109
       obtain ⟨x25_2, rfl, HA, HK2, HB⟩ := hrel
       cases gk with
       | zero => exact absurd HA.out (by simp [rack_checkShape.l1])
       | succ k2 =>
        have H := HA.out
        clear HA
        simp only [rack_checkShape.l1] at H
        by_cases c9 : x25_2 < (l0.length : Int)
        ·
         rw [if_pos c9] at H
         have c9b0 : decide (x25_2 < (l0.length : Int)) = true := decide_eq_true c9
         clear c9
         by_cases c10 : 0 ≤ x25_2
         ·
          rw [if_pos c10] at H
          have c10b0 : decide (0 ≤ x25_2) = true := decide_eq_true c10
          clear c10
          by_cases c11 : x25_2 < (l0.length : Int)
          ·
           rw [if_pos c11] at H
           have c11b0 : decide (x25_2 < (l0.length : Int)) = true := decide_eq_true c11
           clear c11
           by_cases c12 : x25_2 > 0
           ·
            rw [if_pos c12] at H
            have c12b0 : decide (0 < x25_2) = true := decide_eq_true c12
            clear c12
            obtain ⟨ji13, hji13⟩ : ∃ j_ : Int, (wrap64 (x25_2 - 1)) = j_ := ⟨_, rfl⟩
            replace H : (if 0 ≤ (ji13) then (if (ji13) < (l0.length : Int) then (if (rd l0 x25_2) > (rd l0 (ji13)) then (some 22) else (rack_checkShape.l1 k2 l0 l0 (l0.length : Int) (wrap64 (x25_2 + 1)))) else (none)) else (none)) = some r := by first | (rw [hji13] at H; exact H) | (simp only [hji13] at H ⊢; exact H)
            have hji13w : (IntKind.i64.wrap (x25_2 - 1)) = ji13 := (i64_w _).trans hji13
            by_cases c14 : 0 ≤ (ji13)
            ·
             rw [if_pos c14] at H
             have c14b0 : decide (0 ≤ (ji13)) = true := decide_eq_true c14
             clear c14
             by_cases c15 : (ji13) < (l0.length : Int)
             ·
              rw [if_pos c15] at H
              have c15b0 : decide ((ji13) < (l0.length : Int)) = true := decide_eq_true c15
              clear c15
              by_cases c16 : (rd l0 x25_2) > (rd l0 (ji13))
              ·
               rw [if_pos c16] at H
               have c16b0 : decide ((rd l0 (ji13)) < (rd l0 x25_2)) = true := decide_eq_true c16
               clear c16
               obtain rfl := Option.some.inj H
               have p110 : 0 ≤ (x25_2 : Int) := of_decide_eq_true (by first | (with_reducible assumption) | assumption)
               have q110 : x25_2 < (l0.length : Int) := of_decide_eq_true (by first | (with_reducible assumption) | assumption)
               obtain ⟨ad110, e110, hx110_0⟩ := Kd.at_int HR0.out x25_2 p110 q110
               cases e110
               replace hx110_0 := (HB.out.cell (World.block_lt_of_cell? w _ hx110_0)).trans hx110_0
               replace p110 := eq_true p110
               replace q110 := eq_true q110
               have p111 : 0 ≤ ((ji13) : Int) := of_decide_eq_true (by first | (with_reducible assumption) | assumption)
               have q111 : (ji13) < (l0.length : Int) := of_decide_eq_true (by first | (with_reducible assumption) | assumption)
               obtain ⟨ad111, e111, hx111_0⟩ := Kd.at_int HR0.out (ji13) p111 q111
               obtain rfl : ad110 = ad111 := (by injection e111)
               replace hx111_0 := (HB.out.cell (World.block_lt_of_cell? w _ hx111_0)).trans hx111_0
               replace p111 := eq_true p111
               replace q111 := eq_true q111
               go_wp2
               go_ret
               exact ⟨by first | rfl | (simp [errW_none, errW_some] <;> rfl) | (simp only [← hji13]; first | rfl | (simp [errW_none, errW_some] <;> rfl)) | (simp [*, errW_none, errW_some] <;> rfl), by repeat (first | (with_reducible first | exact HB.out | apply below_alloc | apply pw_below_drewN | apply below_drew1) | exact HB.out)⟩
              ·
               rw [if_neg c16] at H
               have c16b0 : decide ((rd l0 (ji13)) < (rd l0 x25_2)) = false := decide_eq_false c16
               clear c16
               have H' := Aside0.mk H
               clear H
               have p110 : 0 ≤ (x25_2 : Int) := of_decide_eq_true (by first | (with_reducible assumption) | assumption)
               have q110 : x25_2 < (l0.length : Int) := of_decide_eq_true (by first | (with_reducible assumption) | assumption)
               obtain ⟨ad110, e110, hx110_0⟩ := Kd.at_int HR0.out x25_2 p110 q110
               cases e110
               replace hx110_0 := (HB.out.cell (World.block_lt_of_cell? w _ hx110_0)).trans hx110_0
               replace p110 := eq_true p110
               replace q110 := eq_true q110
               have p111 : 0 ≤ ((ji13) : Int) := of_decide_eq_true (by first | (with_reducible assumption) | assumption)
               have q111 : (ji13) < (l0.length : Int) := of_decide_eq_true (by first | (with_reducible assumption) | assumption)
               obtain ⟨ad111, e111, hx111_0⟩ := Kd.at_int HR0.out (ji13) p111 q111
               obtain rfl : ad110 = ad111 := (by injection e111)
               replace hx111_0 := (HB.out.cell (World.block_lt_of_cell? w _ hx111_0)).trans hx111_0
               replace p111 := eq_true p111
               replace q111 := eq_true q111
               go_wp2
               go_roundg k2
               case measure => have := HK1.out; have := HK2.out; omega
               case rel => exact ⟨(wrap64 (x25_2 + 1)), (by first | rfl | (simp; done) | (simp [*]; done)), H', ⟨by have := HK1.out; have := HK2.out; omega⟩, ⟨by repeat (first | (with_reducible first | exact HB.out | apply below_alloc | apply pw_below_drewN | apply below_drew1) | exact HB.out)⟩⟩
             ·
              rw [if_neg c15] at H
              exact absurd H (by simp)
            ·
             rw [if_neg c14] at H
             exact absurd H (by simp)
           ·
            rw [if_neg c12] at H
            have c12b0 : decide (0 < x25_2) = false := decide_eq_false c12
            clear c12
            have H' := Aside0.mk H
            clear H
            have p110 : 0 ≤ (x25_2 : Int) := of_decide_eq_true (by first | (with_reducible assumption) | assumption)
            have q110 : x25_2 < (l0.length : Int) := of_decide_eq_true (by first | (with_reducible assumption) | assumption)
            obtain ⟨ad110, e110, hx110_0⟩ := Kd.at_int HR0.out x25_2 p110 q110
            cases e110
            replace hx110_0 := (HB.out.cell (World.block_lt_of_cell? w _ hx110_0)).trans hx110_0
            replace p110 := eq_true p110
            replace q110 := eq_true q110
            go_wp2
            go_roundg k2
            case measure => have := HK1.out; have := HK2.out; omega
            case rel => exact ⟨(wrap64 (x25_2 + 1)), (by first | rfl | (simp; done) | (simp [*]; done)), H', ⟨by have := HK1.out; have := HK2.out; omega⟩, ⟨by repeat (first | (with_reducible first | exact HB.out | apply below_alloc | apply pw_below_drewN | apply below_drew1) | exact HB.out)⟩⟩
          ·
           rw [if_neg c11] at H
           exact absurd H (by simp)
         ·
          rw [if_neg c10] at H
          exact absurd H (by simp)
        ·
         rw [if_neg c9] at H
         have c9b0 : decide (x25_2 < (l0.length : Int)) = false := decide_eq_false c9
         clear c9
         obtain rfl := Option.some.inj H
         go_wp2
         go_ret
         exact ⟨by first | rfl | (simp [errW_none, errW_some] <;> rfl) | (simp [*, errW_none, errW_some] <;> rfl), by repeat (first | (with_reducible first | exact HB.out | apply below_alloc | apply pw_below_drewN | apply below_drew1) | exact HB.out)⟩
 ·
  replace c3 := Bool.eq_false_iff.mpr c3
  subst c3
  have H1 : (some 3) = some r := by rw [if_neg (show ¬ (false = true) by decide)] at H; exact H
  clear H
  have H := H1
  clear H1
  obtain rfl := Option.some.inj H
  go_enter Try.func65, Try.ntmps65
  go_wp2_with (first | ((with_reducible refine gate_callee (f := 42) rfl ?_); refine goesL_ (some 9) rfl rfl Try.func42 (by kernel_rfl) rfl #[.int .i64 1, .int .i64 12, .slice A0 l0.length c0] rfl (by (try simp only [List.map_toArray, List.map_cons, List.map_nil]); first | done | rfl | (simp only [List.length_drop, List.length_take]; rfl)) ?_; (with_reducible refine (rack_within.calls 1 12 _ _ l0 false _ ?side1 ?side2 A2.out).mono ?_); (case side1 => repeat (first | exact HR0.out | (with_reducible refine Kd.C_alloc ?_ _) | (with_reducible refine Kd.C_drewN ?_ _) | (with_reducible refine Kd.C_drew ?_))); (case side2 => exact HC0.out); rintro e w17 ⟨rfl, hb⟩; refine ⟨_, rfl, ?_⟩; have n0_ := Aside0.mk (below_step (by repeat (first | (with_reducible first | exact HB.out | apply below_alloc | apply pw_below_drewN | apply below_drew1) | exact HB.out)) hb); clear HB; have HB := n0_; clear n0_; (try clear hb); (try clear hb2); (try clear hk); (try clear hi)))
  go_ret
  exact ⟨by first | rfl | (simp [errW_none, errW_some] <;> rfl) | (simp [*, errW_none, errW_some] <;> rfl), by repeat (first | (with_reducible first | exact HB.out | apply below_alloc | apply pw_below_drewN | apply below_drew1) | exact HB.out)⟩

end Go.Proofs.Ytpbemjdaanlaoaa.Pr
set_option linter.unusedVariables false
set_option linter.unusedSimpArgs false
namespace Go.Proofs.Ytpbemjdaanlaoaa.Pr
open Go.RowKit Go.Proofs.YtpbemjdaanlaoaaW.PrintWords Go.Proofs.YtpbemjdaanlaoaaW.PrintLast Go.Proofs.YtpbemjdaanlaoaaW.PrintMore
set_option maxRecDepth 100000

/-! Shapes. -/
def sumI : List Int → Int
  | [] => 0
  | a :: l => a + sumI l
theorem sumI_append : ∀ (a b : List Int), sumI (a ++ b) = sumI a + sumI b
  | [], b => by simp [sumI]
  | x :: a, b => by simp [sumI, sumI_append a b]; omega
theorem sumI_take_succ (l : List Int) (j : Nat) (hj : j < l.length) : sumI (l.take (j + 1)) = sumI (l.take j) + l[j] := by
  rw [List.take_succ_eq_append_getElem hj, sumI_append]
  simp [sumI]
theorem sumI_bound (l : List Int) (h : ∀ x ∈ l, 1 ≤ x ∧ x ≤ 12) : 0 ≤ sumI l ∧ (l.length : Int) ≤ sumI l ∧ sumI l ≤ 12 * l.length := by
  induction l with
  | nil => simp [sumI]
  | cons a l ih =>
    have h1 := h a (by simp)
    have h2 := ih (fun x hx => h x (by simp [hx]))
    simp only [sumI, List.length_cons]
    omega
/-- Does a number grow from place j on? -/
def grows (l : List Int) : Bool := (List.range l.length).any fun j => decide (0 < j) && decide (rd l ((j - 1 : Nat) : Int) < rd l (j : Int))
def chkS (l : List Int) : Int := if within_ 1 12 l = false then 3 else if 12 < sumI l then 6 else if grows l = true then 22 else 0
theorem sub1_ (j : Nat) (h0 : 0 < j) (h : j < 1000000) : wrap64 ((j : Int) - 1) = ((j - 1 : Nat) : Int) := by unfold wrap64; omega
theorem chk_loop1 (l : List Int) (hl : l.length ≤ 1000) : ∀ d j, l.length - j = d → j ≤ l.length → Ev (fun k => rack_checkShape.l1 k l l (l.length : Int) (j : Int)) (if ((List.range l.length).drop j).any (fun j => decide (0 < j) && decide (rd l ((j - 1 : Nat) : Int) < rd l (j : Int))) then 22 else 0) := by
  intro d
  induction d with
  | zero =>
    intro j h1 h2
    obtain rfl : j = l.length := by omega
    refine Ev.step (f := fun _ => some 0) (fun k => ?_) ?_
    · simp only [rack_checkShape.l1]
      rw [if_neg (by omega)]
    · rw [List.drop_eq_nil_of_le (by simp)]; exact Ev.now _
  | succ d ih =>
    intro j h1 h2
    have hj : j < l.length := by omega
    have hd : (List.range l.length).drop j = j :: (List.range l.length).drop (j + 1) := by
      rw [List.drop_eq_getElem_cons (by simpa using hj)]; simp
    rw [hd, List.any_cons]
    have ih' := ih (j + 1) (by omega) (by omega)
    by_cases h0 : 0 < j
    · by_cases hx : rd l ((j - 1 : Nat) : Int) < rd l (j : Int)
      · refine Ev.step (f := fun _ => some 22) (fun k => ?_) (by simp [h0, hx]; exact Ev.now _)
        simp only [rack_checkShape.l1]
        rw [if_pos (by omega), if_pos (by omega), if_pos (by omega), if_pos (by omega), sub1_ j h0 (by omega), if_pos (by omega), if_pos (by omega), if_pos hx]
      · refine Ev.step (f := fun k => rack_checkShape.l1 k l l (l.length : Int) ((j + 1 : Nat) : Int)) (fun k => ?_) (by rw [show decide (rd l ((j - 1 : Nat) : Int) < rd l (j : Int)) = false by simp [hx], Bool.and_false, Bool.false_or]; exact ih')
        simp only [rack_checkShape.l1]
        rw [if_pos (by omega), if_pos (by omega), if_pos (by omega), if_pos (by omega), sub1_ j h0 (by omega), if_pos (by omega), if_pos (by omega), if_neg hx, w1_ j (by omega)]
    · refine Ev.step (f := fun k => rack_checkShape.l1 k l l (l.length : Int) ((j + 1 : Nat) : Int)) (fun k => ?_) (by rw [show decide (0 < j) = false by simp [h0], Bool.false_and, Bool.false_or]; exact ih')
      simp only [rack_checkShape.l1]
      rw [if_pos (by omega), if_pos (by omega), if_pos (by omega), if_neg (by omega), w1_ j (by omega)]
theorem chk_loop0 (l : List Int) (hl : l.length ≤ 1000) (hw : ∀ x ∈ l, 1 ≤ x ∧ x ≤ 12) : ∀ d j, l.length - j = d → j ≤ l.length → Ev (fun k => rack_checkShape.l0 k l (sumI (l.take j)) l (l.length : Int) (j : Int)) (if 12 < sumI l then 6 else if grows l = true then 22 else 0) := by
  intro d
  induction d with
  | zero =>
    intro j h1 h2
    obtain rfl : j = l.length := by omega
    rw [List.take_length]
    by_cases hs : 12 < sumI l
    · rw [if_pos hs]
      refine Ev.step (f := fun _ => some 6) (fun k => ?_) (Ev.now _)
      simp only [rack_checkShape.l0]
      rw [if_neg (by omega), if_pos (by omega)]
    · rw [if_neg hs]
      refine Ev.step (f := fun k => rack_checkShape.l1 k l l (l.length : Int) 0) (fun k => ?_) ?_
      · simp only [rack_checkShape.l0]
        rw [if_neg (by omega), if_neg (by omega)]
      · have := chk_loop1 l hl l.length 0 (by omega) (by omega)
        rw [List.drop_zero] at this
        exact this
  | succ d ih =>
    intro j h1 h2
    have hj : j < l.length := by omega
    refine Ev.step (f := fun k => rack_checkShape.l0 k l (sumI (l.take (j + 1))) l (l.length : Int) ((j + 1 : Nat) : Int)) (fun k => ?_) (ih (j + 1) (by omega) (by omega))
    have hb := sumI_bound (l.take j) (fun x hx => hw x (List.mem_of_mem_take hx))
    rw [List.length_take] at hb
    have hx := hw l[j] (List.getElem_mem hj)
    have hw2 : wrap64 (sumI (l.take j) + l[j]) = sumI (l.take (j + 1)) := by rw [sumI_take_succ l j hj]; unfold wrap64; omega
    simp only [rack_checkShape.l0]
    rw [if_pos (by omega), if_pos (by omega), if_pos (by omega), rd_get l j hj, hw2, w1_ j (by omega)]
theorem chk_ev (l : List Int) (hl : l.length ≤ 1000) : Ev (fun k => rack_checkShape.f k l) (chkS l) := by
  unfold rack_checkShape.f rack_within.f chkS
  cases hw : within_ 1 12 l
  · simp only [Option.bind_some, Bool.false_eq_true, if_false, if_true]
    exact Ev.now _
  · simp only [Option.bind_some, if_true, Bool.true_eq_false, if_false]
    have := chk_loop0 l hl (within_true hw) l.length 0 (by omega) (by omega)
    exact this
theorem chkS_ok {l : List Int} (h : chkS l = 0) : (∀ x ∈ l, 1 ≤ x ∧ x ≤ 12) ∧ sumI l ≤ 12 ∧ grows l = false := by
  unfold chkS at h
  split at h
  · cases h
  · rename_i h1
    split at h
    · cases h
    · rename_i h2
      split at h
      · cases h
      · rename_i h3
        exact ⟨within_true (by simpa using h1), by omega, by simpa using h3⟩

/-! Hooks. -/
def cnt (l : List Int) (k : Int) : Int := ((l.filter fun x => decide (x > k)).length : Nat)
theorem cnt_nil (k : Int) : cnt [] k = 0 := rfl
theorem cnt_snoc (l : List Int) (x k : Int) : cnt (l ++ [x]) k = cnt l k + if x > k then 1 else 0 := by
  unfold cnt
  rw [List.filter_append, List.length_append]
  by_cases h : x > k
  · rw [if_pos h]; simp [List.filter_cons, h]
  · rw [if_neg h]; simp [List.filter_cons, h]
theorem cnt_bound (l : List Int) (k : Int) : 0 ≤ cnt l k ∧ cnt l k ≤ l.length := by
  unfold cnt
  have := List.length_filter_le (fun x => decide (x > k)) l
  omega
def hk (l : List Int) (i k : Nat) : Int := rd l (i : Int) - (k : Int) + cnt (l.drop (i + 1)) (k : Int)
/-- A row's hooks, of which the first k are made. -/
def rowK (l : List Int) (i k : Nat) : List Int := (List.range (rd l (i : Int)).toNat).map fun q => if q < k then hk l i q else 0
def hooksTo (l : List Int) (i : Nat) : List (List Int) := (List.range i).map fun i => rowK l i (rd l (i : Int)).toNat
theorem rowK_len (l : List Int) (i k : Nat) : (rowK l i k).length = (rd l (i : Int)).toNat := by simp [rowK]
theorem rowK_zero (l : List Int) (i : Nat) : rowK l i 0 = List.replicate (rd l (i : Int)).toNat 0 := by
  unfold rowK
  apply List.ext_getElem
  · simp
  · intro j h1 h2
    simp
theorem rowK_next (l : List Int) (i k : Nat) : (rowK l i k).set k (hk l i k) = rowK l i (k + 1) := by
  apply List.ext_getElem
  · simp [rowK]
  · intro j h1 h2
    rw [List.getElem_set]
    by_cases e : k = j
    · subst e
      rw [if_pos rfl]
      simp [rowK]
    · rw [if_neg e]
      simp only [rowK, List.getElem_map, List.getElem_range]
      by_cases h : j < k
      · rw [if_pos h, if_pos (by omega)]
      · rw [if_neg h, if_neg (by omega)]
theorem hooksTo_succ (l : List Int) (i : Nat) : hooksTo l (i + 1) = hooksTo l i ++ [rowK l i (rd l (i : Int)).toNat] := by simp [hooksTo, List.range_succ]
theorem hooksTo_len (l : List Int) (i : Nat) : (hooksTo l i).length = i := by simp [hooksTo]
def hooksR (l : List Int) : (List (List Int)) × Int := if chkS l ≠ 0 then ([], chkS l) else (hooksTo l l.length, 0)
def rack_Hooks.f (l : List Int) : Option ((List (List Int)) × Int) := if l.length ≤ 1000 then some (hooksR l) else none
end Go.Proofs.Ytpbemjdaanlaoaa.Pr
set_option linter.unusedVariables false
set_option linter.unusedSimpArgs false
namespace Go.Proofs.Ytpbemjdaanlaoaa.Pr
open Go.RowKit Go.Proofs.YtpbemjdaanlaoaaW.PrintWords Go.Proofs.YtpbemjdaanlaoaaW.PrintLast Go.Proofs.YtpbemjdaanlaoaaW.PrintMore
open Go.Maps
set_option maxRecDepth 100000

theorem rd_set_eq_ (l : List Int) (k : Nat) (x : Int) (h : k < l.length) : rd (l.set k x) (k : Int) = x := by
  unfold rd
  simp only [Int.toNat_natCast]
  rw [List.getD_eq_getElem?_getD, List.getElem?_set_self h]; rfl
set_option maxHeartbeats 4000000 in
theorem rack_Hooks.calls (A0 : Option Addr) (c0 : Nat) (l0 : List Int) (r1 : List (List Int)) (r2 : Int) (w : World) (hr0 : Kd.C (Kd.int .i64) w A0 l0.length l0) (hc0 : l0.length ≤ c0) (h : rack_Hooks.f l0 = some (r1, r2)) :
    Calls Try.prog 26 #[.slice A0 l0.length c0] w fun e w' => ∃ v0_ : Value, e = .returned (.tuple #[v0_, .int .i64 r2]) ∧ Kd.S (Kd.slice 3 (Kd.int .i64)) 32 w' w.heap.size (fun _ => True) v0_ r1 ∧ Below w.heap.size w w' := by
  unfold rack_Hooks.f at h
  have hb : l0.length ≤ 1000 := by
    by_cases hb : l0.length ≤ 1000
    · exact hb
    · rw [if_neg hb] at h; cases h
  rw [if_pos hb] at h
  injection h with h
  obtain ⟨kc, hkc⟩ := (chk_ev l0 hb).rounds
  have h65 := rack_checkShape.calls kc A0 c0 l0 (chkS l0) w hr0 hc0 hkc
  unfold hooksR at h
  by_cases hk0 : chkS l0 ≠ 0
  · rw [if_pos hk0] at h
    injection h with e1 e2
    subst e1 e2
    have H65 := Lib.hid h65
    clear h65 hkc hr0
    generalize chkS l0 = kk at *
    have hk' : (kk == 0) = false := by simpa using hk0
    clear hk0
    go_enter Try.func26, Try.ntmps26
    go_wp2_with (go_at_call 65; refine H65.out.mono ?_; rintro e w1 ⟨rfl, hb1⟩)
    go_ret2
    exact ⟨_, rfl, Kd.S_nil _ _ _ _ _, by first | exact hb1 | (obtain ⟨n, rfl⟩ := hb1; exact pw_below_drewN (Below.refl _ _) n)⟩
  · rw [if_neg hk0] at h
    injection h with e1 e2
    subst e1 e2
    have hk1 : chkS l0 = 0 := by
      by_cases hz : chkS l0 = 0
      · exact hz
      · exact absurd hz hk0
    rw [hk1] at h65
    obtain ⟨hw, _, _⟩ := chkS_ok hk1
    have H65 := Lib.hid h65; have HW := Lib.hid hw; have HR0 := Lib.hid hr0
    clear h65 hkc hr0 hk0 hk1 hw
    go_enter Try.func26, Try.ntmps26
    go_wp2_with (go_at_call 65; refine H65.out.mono ?_; rintro e w1 ⟨rfl, hb1⟩; have HB1 : Hid (Below w.heap.size w w1) := Lib.hid (by first | exact hb1 | (obtain ⟨n, rfl⟩ := hb1; exact pw_below_drewN (Below.refl _ _) n)); clear hb1)
    go_loopw [5, 19] (fun o i wr => ∃ k : Nat, k ≤ l0.length ∧ i = .int .i64 k ∧ Hid (Kd.S (Kd.slice 3 (Kd.int .i64)) 32 wr w.heap.size (fun _ => True) o (hooksTo l0 k)) ∧ Hid (Below w.heap.size w wr)) (fun _ i _ => l0.length - (intOf i).toNat)
    case atStart => exact ⟨0, Nat.zero_le _, rfl, Kd.S_nil _ _ _ _ _, HB1⟩
    case round =>
      obtain ⟨k, hkl, rfl, HS, HB⟩ := hrel
      obtain ⟨wo, rfl⟩ : ∃ wo : World, wo = wr := ⟨_, rfl⟩
      by_cases hlt : k < l0.length
      · have hx := HW.out l0[k] (List.getElem_mem hlt)
        rw [← rd_get l0 k hlt] at hx
        obtain ⟨ad, rfl, hcell⟩ := Kd.at_int (Kd.C_below HR0.out HB.out) (k : Int) (by omega) (by omega)
        rw [Int.toNat_natCast] at hcell
        obtain ⟨n, hn⟩ : ∃ n : Nat, rd l0 (k : Int) = (n : Int) := ⟨(rd l0 (k : Int)).toNat, by omega⟩
        rw [hn] at hcell hx
        have HN := Lib.hid hn
        have hn12 : n ≤ 12 := by omega
        have hh := hooksTo_succ l0 k
        have hlenO := hooksTo_len l0 k
        have hk1000 : k ≤ 1000 := by omega
        have HH := Lib.hid hh
        obtain ⟨Ao, co, rfl⟩ := Kd.S_slice HS.out
        have HLO := Lib.hid hlenO
        have HBW := Lib.hid HB.out.size
        clear hn hx hh hlenO
        go_wp2_with (((with_reducible refine gate_dst (N := 25) rfl ?_); refine Kd.R_make (Kd.int .i64) w.heap.size 3 rfl (N := 25) rfl 32 _ _ rfl (n : Int) rfl rfl Try.underlying32 (.int .i64 0) 8 info3 rfl (by decide) (by omega) 0 (ok := fun q => wo.heap.size ≤ q) (okp := fun _ => False) rfl (fun _ hk => hk.elim) (Nat.le_refl _) (by omega) (by omega) (Below.refl _ _) HBW.out ?_; intro v7 w7 hR7 hb7 hg7 hat7; rw [Int.toNat_natCast] at hR7; have hBz : Below wo.heap.size wo w7 := ((Below.refl _ _).grown hg7 (Nat.le_refl _) (fun k e => by cases e)); obtain ⟨A7, c7, rfl⟩ := Kd.R_slice hR7; rw [List.length_replicate] at hR7 ⊢; have HR7 := Lib.hid hR7; have HBZ7 := Lib.hid hBz; clear hR7 hb7 hg7 hat7 hBz))
        have hrk0 : Kd.R (Kd.int .i64) 3 w7 w.heap.size (fun q => wo.heap.size ≤ q) (.slice A7 n c7) (rowK l0 k 0) := by rw [rowK_zero, HN.out, Int.toNat_natCast]; exact HR7.out
        have HRK0 := Lib.hid hrk0
        clear hrk0 HR7
        go_loopw [28] (fun i wq => ∃ q : Nat, q ≤ n ∧ i = .int .i64 q ∧ Hid (Kd.R (Kd.int .i64) 3 wq w.heap.size (fun q => wo.heap.size ≤ q) (.slice A7 n c7) (rowK l0 k q)) ∧ Hid (Below wo.heap.size wo wq)) (fun i _ => n - (intOf i).toNat)
        case atStart => exact ⟨0, Nat.zero_le _, rfl, HRK0, HBZ7⟩
        case round =>
          obtain ⟨q, hq, rfl, HRK, HBZ⟩ := hrel
          obtain ⟨wp, rfl⟩ : ∃ wp : World, wp = wr := ⟨_, rfl⟩
          by_cases hlq : q < n
          · have hlenr := rowK_len l0 k q
            rw [HN.out, Int.toNat_natCast] at hlenr
            obtain ⟨go, cap, hv, hg0, hglt, _⟩ := Kd.R_form HRK.out (by omega)
            rw [hlenr] at hv
            injection hv with hv1 _ hv3
            subst hv1 hv3
            have HGO := Lib.hid (HRK.out.1 go (by simp [Value.ownBlock]))
            obtain ⟨z1, z2⟩ := Kd.R_celln (0 : Int) HRK.out (q : Int) (by omega) (by omega)
            rw [Int.toNat_natCast] at z1 z2
            have hR8 := Kd.R_putn HRK.out (q : Int) ((n : Int) - (q : Int))
            rw [Int.toNat_natCast] at hR8
            have HR8 := Lib.hid hR8
            have HB8 := Lib.hid (HBZ.out.setCell (p := ⟨go, q, none⟩) HGO.out (.int .i64 ((n : Int) - (q : Int))))
            obtain ⟨i022, hi022, _, hsz22, _⟩ := info_parts info3
            obtain ⟨A22, hcut22, hA22, hC22⟩ := print_drop_of (P := Try.prog) (Value.int .i64) 0 32 3 .i64 Try.underlying32 hi022 hsz22 (some ad) c0 l0 ((k : Int) + 1) (by omega) (by omega) hc0
            have ek : ((k : Int) + 1).toNat = k + 1 := by omega
            rw [ek] at hA22 hC22
            simp only [ek] at hcut22
            have HA22 := Lib.hid hA22
            have hw1 : wrap64 ((k : Int) + 1) = ((k + 1 : Nat) : Int) := w1_ k (by omega)
            clear hR8 hglt hg0 hlenr hA22 hi022 hsz22
            clear ek hw1
            rw [List.length_drop] at hcut22
            go_wp2
            have hst0 : (n : Int) - (q : Int) = (n : Int) - (q : Int) + cnt ((l0.drop (k + 1)).take 0) (q : Int) := by rw [List.take_zero, cnt_nil]; omega
            have HST0 := Lib.hid hst0
            have hbv : 0 ≤ (n : Int) - (q : Int) ∧ (n : Int) - (q : Int) ≤ 2000 := by omega
            clear hst0 z1 z2 hcut22
            go_loopw [42] (fun i wx => ∃ (j : Nat) (v : Int), j ≤ l0.length - (k + 1) ∧ i = .int .i64 j ∧ Hid (v = (n : Int) - (q : Int) + cnt ((l0.drop (k + 1)).take j) (q : Int)) ∧ Hid (Kd.R (Kd.int .i64) 3 wx w.heap.size (fun q => wo.heap.size ≤ q) (.slice (some ⟨go, 0, none⟩) n c7) ((rowK l0 k q).set q v)) ∧ Hid (Below wo.heap.size wo wx)) (fun i _ => l0.length - (k + 1) - (intOf i).toNat)
            case atStart => exact ⟨0, _, Nat.zero_le _, rfl, HST0, HR8, HB8⟩
            case round =>
              obtain ⟨j, v, hj, rfl, HV, HRX, HBX⟩ := hrel
              have hcb := cnt_bound ((l0.drop (k + 1)).take j) (q : Int)
              have hv := HV.out
              rw [List.length_take, List.length_drop] at hcb
              have hvb : -2000 ≤ v ∧ v ≤ 2000 := by omega
              have HCB := Lib.hid hcb
              clear hcb hv hbv
              by_cases hjl : j < l0.length - (k + 1)
              · have hCx := Kd.C_of_reads (h1 := fun _ => rfl) (HA22.out wr (Kd.reads_of_C (Kd.C_below HR0.out (HB.out.trans (HBX.out.mono HBW.out)))))
                obtain ⟨a22, hA22e, q5⟩ := Kd.at_int hCx (j : Int) (by omega) (by rw [List.length_drop]; omega)
                subst hA22e
                rw [Int.toNat_natCast] at q5
                have hjd : j < (l0.drop (k + 1)).length := by rw [List.length_drop]; exact hjl
                have hsn : (l0.drop (k + 1)).take (j + 1) = (l0.drop (k + 1)).take j ++ [rd (l0.drop (k + 1)) (j : Int)] := by rw [List.take_succ_eq_append_getElem hjd, rd_get _ j hjd]
                have HSN := Lib.hid hsn
                obtain ⟨x, hx⟩ : ∃ x, x = rd (l0.drop (k + 1)) (j : Int) := ⟨_, rfl⟩
                rw [← hx] at q5
                have HX := Lib.hid hx
                have hlenr := rowK_len l0 k q
                rw [HN.out, Int.toNat_natCast] at hlenr
                obtain ⟨z1, z2⟩ := Kd.R_celln (0 : Int) HRX.out (q : Int) (by omega) (by omega)
                rw [Int.toNat_natCast, show rdOf (0 : Int) ((rowK l0 k q).set q v) (q : Int) = v from rd_set_eq_ _ q v (by omega)] at z1
                rw [Int.toNat_natCast] at z2
                have hR9 := Kd.R_putn HRX.out (q : Int) (v + 1)
                rw [Int.toNat_natCast, List.set_set] at hR9
                have HR9 := Lib.hid hR9
                have HB9 := Lib.hid (HBX.out.setCell (p := ⟨go, q, none⟩) HGO.out (.int .i64 (v + 1)))
                clear hR9 hCx hsn hx hjd
                by_cases hxq : (q : Int) < x
                · have hxd : decide ((q : Int) < x) = true := decide_eq_true hxq
                  have HXQ := Lib.hid hxq
                  clear hxq
                  go_wp2
                  refine ⟨⟨j + 1, v + 1, by omega, by go_num, ?_, HR9, HB9⟩, by simp [intOf]; omega⟩
                  show _ = _
                  have := HV.out
                  have h7 := HXQ.out
                  rw [HSN.out, ← HX.out, cnt_snoc, if_pos (by omega)]
                  omega
                · have hxd : decide ((q : Int) < x) = false := decide_eq_false hxq
                  have HXQ := Lib.hid hxq
                  clear hxq
                  go_wp2
                  refine ⟨⟨j + 1, v, by omega, by go_num, ?_, HRX, HBX⟩, by simp [intOf]; omega⟩
                  show _ = _
                  have := HV.out
                  have h7 := HXQ.out
                  rw [HSN.out, ← HX.out, cnt_snoc, if_neg (by omega)]
                  omega
              · have hje : j = l0.length - (k + 1) := by omega
                have hvk : v = hk l0 k q := by
                  have := HV.out
                  rw [hje, List.take_of_length_le (by rw [List.length_drop]; omega)] at this
                  unfold hk
                  rw [HN.out]; exact this
                have HVK := Lib.hid hvk
                clear hje hvk hvb
                have hjl2 : ¬ j < l0.length - (k + 1) := hjl
                go_wp2
                refine ⟨⟨q + 1, by omega, by go_num, ?_, HBX⟩, by simp [intOf]; omega⟩
                rw [← rowK_next, ← HVK.out]
                exact HRX
          · obtain rfl : q = n := by omega
            have hlenr := rowK_len l0 k q
            rw [HN.out, Int.toNat_natCast] at hlenr
            have HLR := Lib.hid hlenr
            have hbl : ((hooksTo l0 k).length + 1) * 24 ≤ 140737488355328 := by rw [HLO.out]; omega
            have HSX := Lib.hid (Kd.S_mono (ok' := fun q => True ∧ ¬ wo.heap.size ≤ q) (Kd.S_below (Kd.S_bound HS.out) HBZ.out) (fun q hq => ⟨trivial, by have := hq.2.2.1; omega⟩))
            have HVL := Lib.hid (Kd.S_lt HS.out)
            have HBX := Lib.hid (HB.out.trans (HBZ.out.mono HBW.out))
            have HBXW := Lib.hid HBX.out.size
            clear hlenr
            go_wp2_with (((with_reducible refine gate_builtin (b := .append) (xs := #[.tmp 57, .tmp 59]) rfl ?_); at_builtin; refine Kd.S_append (Kd.slice 3 (Kd.int .i64)) (w0 := wp) w.heap.size rfl (.tmp 57) (.tmp 59) 22 32 (.slice none 0 0) 24 rfl Try.underlying22 info32 rfl (by decide) (by omega) (.slice Ao (hooksTo l0 k).length co) (hooksTo l0 k) (rowK l0 k q) [.slice A7 q c7] (fun _ => True) (fun z => wo.heap.size ≤ z) rfl rfl (Kd.M_row HRK.out) (fun z hz => ⟨trivial, fun e => by have := HVL.out z e.symm; omega⟩) (fun _ _ => trivial) HSX.out (Below.refl _ _) HBXW.out hbl ?_; intro v9 w9 hS9 hb9 hg9 hat9; obtain ⟨A9, c9, rfl⟩ := Kd.S_slice hS9; have HS9 := Lib.hid hS9; have HB9 := Lib.hid (HBX.out.trans hb9); clear hS9 hb9 hg9 hat9))
            all_goals
              refine ⟨⟨k + 1, by omega, by go_num, ?_, HB9⟩, by simp [intOf]; omega⟩
              have h9 := HS9.out
              rw [HH.out, HN.out, Int.toNat_natCast]
              first
                | exact h9
                | (rw [List.length_append] at h9; exact h9)
      · obtain rfl : k = l0.length := by omega
        obtain ⟨Ao, co, rfl⟩ := Kd.S_slice HS.out
        go_wp2
        go_ret2
        exact ⟨_, rfl, HS.out, HB.out⟩
end Go.Proofs.Ytpbemjdaanlaoaa.Pr
