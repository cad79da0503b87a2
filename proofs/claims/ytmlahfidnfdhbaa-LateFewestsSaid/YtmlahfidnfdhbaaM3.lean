/- Contracts of late.tight, most and what stands on them. -/
import Derived.RangeFuncNested
import Derived.RangeFuncBound
import Derived.RangeFuncCalls
import Derived.RangeFuncLeaves
import Derived.Shelf.Abstract
import Derived.Shelf.RegionOpen
import Derived.OwnWalkIn
import Derived.TacticsInMore
import Derived.LoopNIn
import Derived.LoopIn
import Derived.Test.YtmlahfidnfdhbaaM2
import Derived.WalkMore
set_option linter.unusedVariables false
set_option linter.unusedSimpArgs false
namespace Go.Proofs.Ytmlahfidnfdhbaa.Pr
open Go.RowKit Go.Proofs.YtmlahfidnfdhbaaW.PrintWords Go.Proofs.YtmlahfidnfdhbaaW.PrintLast Go.Proofs.YtmlahfidnfdhbaaW.PrintMore
attribute [local go_sem] Oper.semAt_some

/-- Blocks of cells, but for some, hold what they held. -/
structure KeepC (S : Nat → Prop) (W W' : World) : Prop where
  size : W.heap.size ≤ W'.heap.size
  same : ∀ b o, W.heap[b]? = some o → o.isCells = true → ¬ S b → W'.heap[b]? = some o
theorem KeepC.refl (S : Nat → Prop) (W : World) : KeepC S W W := ⟨Nat.le_refl _, fun _ _ h _ _ => h⟩
theorem KeepC.trans {S : Nat → Prop} {A B C : World} (h : KeepC S A B) (k : KeepC S B C) : KeepC S A C :=
  ⟨Nat.le_trans h.size k.size, fun b o hb hc hs => k.same b o (h.same b o hb hc hs) hc hs⟩
theorem KeepC.of_below {S : Nat → Prop} {A B : World} (h : Below A.heap.size A B) : KeepC S A B :=
  ⟨h.size, fun b o hb _ _ => blk_below hb h⟩
theorem KeepC.setCell {S : Nat → Prop} {A : World} {p : Addr} (hp : S p.block) (v : Value) : KeepC S A (A.setCell p v) :=
  ⟨by simp [World.setCell], fun b o hb _ hs => (Below.heap_setCell _ _ _ _ (fun e => hs (by rw [e]; exact hp))).trans hb⟩
theorem KeepC.cell {S : Nat → Prop} {W W' : World} (h : KeepC S W W') {p : Addr} {v : Value} (hc : W.cell? p = some v) (hs : ¬ S p.block) : W'.cell? p = some v := by
  have : ∃ o, W.heap[p.block]? = some o ∧ o.isCells = true := by
    unfold World.cell? at hc
    split at hc
    · rename_i c e f hh
      exact ⟨_, hh, rfl⟩
    · simp at hc
  obtain ⟨o, ho, hi⟩ := this
  exact (World.cell?_of_block ((h.same _ _ ho hi hs).trans ho.symm)).trans hc
theorem add_block (a : Addr) (n : Nat) : (a.add n).block = a.block := by unfold Addr.add; split <;> rfl
theorem C_keepC {α : Type} {d : Kd α} (hd : ∀ w w' x cs, d.K w x cs → d.K w' x cs) {S : Nat → Prop} {W W' : World} {A : Option Addr} {n : Nat} {xs : List α} (h : d.C W A n xs) (hk : KeepC S W W') (hA : ∀ ad, A = some ad → ¬ S ad.block) : d.C W' A n xs :=
  ⟨h.1, h.2.1, fun hn => by
    obtain ⟨ad, e, hc⟩ := h.2.2 hn
    refine ⟨ad, e, fun j p hj => ?_⟩
    obtain ⟨c, hs, hr, hcell⟩ := hc j p hj
    exact ⟨c, hs, hd _ _ _ _ hr, fun i u hu => hk.cell (hcell i u hu) (by rw [add_block]; exact hA ad e)⟩⟩
theorem KeepC.putObj {S : Nat → Prop} (w : World) (W : World) (l : Nat) (o o' : Obj) (_h : w.heap.size ≤ l) (ho : W.heap[l]? = some o) (hc : o.isCells = false) (_hw : o.isWalk = false) : KeepC S W (W.putObj l o') := by
  refine ⟨by simp [World.putObj], fun b q hb hq _ => ?_⟩
  have hne : b ≠ l := by
    rintro rfl
    rw [hb] at ho
    injection ho with ho
    rw [ho] at hq
    rw [hc] at hq
    cases hq
  simp [World.putObj, Array.getElem?_setIfInBounds, hne.symm, hb]

/-- The days on which orders are due, from the first one on. -/
def daysFrom (l : List S58) : Int → List Int → List Int
  | _, [] => []
  | last, i :: r => if last < (rd_T58 l i).f1 then (rd_T58 l i).f1 :: daysFrom l (rd_T58 l i).f1 r else daysFrom l last r
def daysOf (l : List S58) : List Int := daysFrom l (-1) (byDueL l)

set_option maxRecDepth 100000 in
set_option maxHeartbeats 2000000 in
theorem days87 (n : Nat) (hn : 1 ≤ n) (ly Bs : Nat) (S : Nat → Prop) (A : Option Addr) (c : Nat) (lo : List S58) (hlo : lo.length < 20) (J Jx : List Int → World → Prop) (W : World) (hJ : AbidesFrom W.heap.size J)
    (hY : ∀ pre x W1, J pre W1 → pre.length < lo.length → YieldAt Fence.wide (n - 1) Try.prog ly #[.int .i64 x] W1 fun e W' =>
      (e = .returned (.bool true) ∧ J (pre ++ [x]) W' ∧ KeepC S W1 W') ∨ (e = .returned (.bool false) ∧ Jx (pre ++ [x]) W'))
    (hBs : W.cell? ⟨Bs, 0, none⟩ = some (.slice A lo.length c)) (hSb : ¬ S Bs) (hSA : ∀ ad, A = some ad → ¬ S ad.block) (hSn : ∀ b, W.heap.size ≤ b → ¬ S b) (hC : Kd.C k58 W A lo.length lo) (h0 : J [] W) :
    CallsIn Fence.wide n Try.prog 87 #[.func (.yield ly) #[] #[], .pointer (some ⟨Bs, 0, none⟩)] W fun e W' => (∃ v, e = .returned v) ∧
      ((∃ xs, xs = daysOf lo ∧ J xs W') ∨ (∃ pre, True ∧ Jx pre W')) := by
  have hu71 := Try.underlying71
  have hu58 := Try.underlying58
  have HJ := Lib.hid hJ; have HY := Lib.hid hY; clear hJ hY
  have HSn := Lib.hid hSn; have HSA := Lib.hid hSA; clear hSn hSA
  have HC := Lib.hid hC; clear hC
  have H0 := Lib.hid h0; clear h0
  refine callsIn_of_wp Try.func87 rfl trivial ?_ rfl
  simp only [Try.ntmps87, List.size_toArray, List.length_cons, List.length_nil, Nat.reduceAdd, Nat.reduceSub, Array.replicate_succ, Array.replicate_zero, List.push_toArray, List.append_toArray, List.nil_append, List.cons_append]
  gi_wp2_with (refine ⟨trivial, ?_⟩; gi_at_call 52; refine (callsIn_wide.2 (byDue52 A c lo W hlo HC.out)).mono ?_; rintro e w1 ⟨v1, rfl, hR1, hb1⟩; obtain ⟨A1, c1, rfl, _, hC1⟩ := Kd.R_reads hR1; have HC1 := Lib.hid hC1; have HR1 := Lib.hid hR1; clear hC1 hR1)
  have HL := Lib.hid (byDueL_len lo)
  rw [HL.out]
  gi_loopw [3, 10] (fun s i wr => ∃ (k : Nat) (x : Int) (pre : List Int), k ≤ lo.length ∧ i = .int .i64 k ∧ s = .int .i64 x ∧ pre.length ≤ k ∧ Hid (pre ++ daysFrom lo x ((byDueL lo).drop k) = daysOf lo) ∧ Hid (J pre wr) ∧ Hid (KeepC S w1 wr)) (fun _ i _ => lo.length - (intOf i).toNat)
  case atStart =>
    refine ⟨0, -1, [], Nat.zero_le _, rfl, rfl, by simp, rfl, ?_, KeepC.refl _ _⟩
    exact HJ.out _ _ _ none H0.out (grown_of_below hb1 none) (fun r e => by cases e)
  case round =>
    obtain ⟨k, x, pre, hk, rfl, rfl, hpk, HP, HJk, HK⟩ := hrel
    have HBR := Lib.hid (byDueL_range lo)
    have hSw : ∀ ad, A1 = some ad → ¬ S ad.block := by
      intro ad e
      by_cases h0 : 0 < lo.length
      · obtain ⟨g, cap, e2, hg, _⟩ := Kd.R_form HR1.out (by rw [HL.out]; exact h0)
        injection e2 with e2
        rw [e] at e2
        injection e2 with e2
        rw [e2]
        exact HSn.out g hg
      · rcases HR1.out.2 with ⟨inner, ho, _⟩
        rcases ho.2 with ⟨e2, _⟩ | ⟨g, cap, cur, e2, hg, _⟩
        · injection e2 with e2
          rw [e] at e2
          cases e2
        · injection e2 with e2
          rw [e] at e2
          injection e2 with e2
          rw [e2]
          exact HSn.out g hg
    have HSw := Lib.hid hSw; clear hSw
    by_cases hlt : k < lo.length
    · have hC1 := C_keepC (d := Kd.int .i64) (fun _ _ _ _ h => h) HC1.out HK.out HSw.out
      rw [HL.out] at hC1
      obtain ⟨ad1, rfl, q1⟩ := C_cell hC1 k hlt
      have hds : (byDueL lo).drop k = rd (byDueL lo) k :: (byDueL lo).drop (k + 1) := by rw [rd_get _ k (by rw [HL.out]; exact hlt)]; exact List.drop_eq_getElem_cons (by rw [HL.out]; exact hlt)
      obtain ⟨hy0, hy1⟩ := AllP_rd HBR.out k (by rw [HL.out]; exact hlt)
      obtain ⟨y, hy⟩ := Int.eq_ofNat_of_zero_le hy0
      rw [hy] at hds hy1 q1
      have hP := HP.out
      rw [hds] at hP
      simp only [daysFrom] at hP
      have HP2 := Lib.hid hP; clear hP hds hy hy0 hC1
      have hy2 : y < lo.length := by omega
      have hBs1 : w1.cell? ⟨Bs, 0, none⟩ = some (.slice A lo.length c) := pw_cell_below hb1 hBs
      have q0 := HK.out.cell (p := ⟨Bs, 0, none⟩) hBs1 hSb
      clear hBs1
      have hC2 := C_keepC (d := k58) (fun _ _ _ _ h => h) (Kd.C_below HC.out hb1) HK.out HSA.out
      obtain ⟨ad, rfl, q2, q3, q4⟩ := at_T58 hC2 y (by omega) (by omega)
      simp only [Int.toNat_natCast] at q2 q3 q4
      clear hC2
      by_cases hd : x < (rd_T58 lo y).f1
      · obtain ⟨fn, tmps, assign, body, hyy, hR⟩ := HY.out pre (rd_T58 lo y).f1 wr HJk.out (by omega)
        gi_wp2
        refine hR.mono ?_
        rintro e W3 (⟨rfl, hJ3, hk3⟩ | ⟨rfl, hJx3⟩)
        · have HJ3 := Lib.hid hJ3; clear hJ3
          gi_wp2
          refine ⟨⟨k + 1, (rd_T58 lo y).f1, pre ++ [(rd_T58 lo y).f1], by omega, by go_num, rfl, by simp; omega, ?_, HJ3, HK.out.trans hk3⟩, by simp [intOf]; omega⟩
          have := HP2.out
          rw [if_pos hd] at this
          show _ = _
          rw [List.append_assoc]
          exact this
        · gi_wp2
          refine bodyPost_ret (results_none rfl _ _ _) rfl ?_
          exact ⟨⟨_, rfl⟩, .inr ⟨_, trivial, hJx3⟩⟩
      · gi_wp2
        refine ⟨⟨k + 1, x, pre, by omega, by go_num, rfl, by omega, ?_, HJk, HK⟩, by simp [intOf]; omega⟩
        have := HP2.out
        rw [if_neg (by omega)] at this
        exact this
    · obtain rfl : k = lo.length := by omega
      have hP := HP.out
      rw [List.drop_of_length_le (by rw [HL.out]; exact Nat.le_refl _)] at hP
      simp only [daysFrom, List.append_nil] at hP
      have HP2 := Lib.hid hP; clear hP
      gi_wp2
      go_end0
      exact ⟨⟨_, rfl⟩, .inl ⟨pre, HP2.out, HJk.out⟩⟩
end Go.Proofs.Ytmlahfidnfdhbaa.Pr
namespace Go.Proofs.Ytmlahfidnfdhbaa.Pr
open Go.RowKit Go.Proofs.YtmlahfidnfdhbaaW.PrintWords Go.Proofs.YtmlahfidnfdhbaaW.PrintLast Go.Proofs.YtmlahfidnfdhbaaW.PrintMore
attribute [local go_sem] Oper.semAt_some

set_option maxHeartbeats 400000 in
theorem days76 (A : Option Addr) (c n : Nat) (w : World) :
    Calls Try.prog 76 #[.agg #[.slice A n c]] w fun e w' => e = .returned (.func (.func 87) #[] #[.pointer (some ⟨w.heap.size, 0, none⟩)]) ∧ w.alloc (.cells #[.slice A n c] 71) = w' := by
  go_enter Try.func76, Try.ntmps76
  go_wp2
  go_ret
  exact ⟨rfl, rfl⟩

def tightStep (b : Int → Int) (q : Option (Int × Int)) (d : Int) : Option (Int × Int) := match q with
  | none => some (d, b d)
  | some (x, m) => if m < b d then some (d, b d) else some (x, m)
def tightF (b : Int → Int) (ds : List Int) : Option (Int × Int) := ds.foldl (tightStep b) none
theorem cell_al {w : World} {a : Addr} {v : Value} (o : Obj) (h : w.cell? a = some v) : (w.alloc o).cell? a = some v := (World.cell?_alloc_lt _ _ _ (World.block_lt_of_cell? _ _ h)).trans h
theorem cell_new_l (W : World) (v : Value) (t : TypeId) : (W.alloc (.cells #[v] t)).cell? ⟨W.heap.size, 0, none⟩ = some v ∧ (W.alloc (.cells #[v] t)).frozen? ⟨W.heap.size, 0, none⟩ = false := ⟨by simp [go_sem], by simp [go_sem]⟩
theorem frozen_alloc_l {W : World} {a : Addr} {v : Value} (o : Obj) (h : W.cell? a = some v) (hf : W.frozen? a = false) : (W.alloc o).frozen? a = false := (frozen_kept h (World.grownBy_alloc W o none) (fun r e => by cases e)).trans hf
theorem tightF_snoc (b : Int → Int) (ds : List Int) (d : Int) : tightF b (ds ++ [d]) = tightStep b (tightF b ds) d := by simp [tightF]
def boundB (l : List S58) (side d : Int) : Int := (boundFrom d l (worksOf side l)).1
def tightOf (l : List S58) (side : Int) : Int × Int := (tightF (boundB l side) (daysOf l)).getD (0, 0)

theorem keepsOthers_of_below {A B : World} (h : Below A.heap.size A B) : KeepsOthers A B := ⟨h.size, fun k o hk _ => blk_below hk h⟩
theorem C_lt {α : Type} {d : Kd α} {W : World} {A : Option Addr} {n : Nat} {xs : List α} (h : d.C W A n xs) (hn : 0 < n) (hcell : ∀ x cs, d.K W x cs → cs ≠ []) : ∀ ad, A = some ad → ad.block < W.heap.size := by
  intro ad e
  obtain ⟨ad', e', hc⟩ := h.2.2 (by omega)
  rw [e] at e'
  injection e' with e'
  subst e'
  have hx : 0 < xs.length := by have := h.1; omega
  obtain ⟨cs, hs, hr, hcl⟩ := hc 0 xs[0] (by simp [hx])
  have := hcell _ _ hr
  cases cs with
  | nil => exact (this rfl).elim
  | cons c r =>
    have := World.block_lt_of_cell? _ _ (hcl 0 c rfl)
    rw [add_block] at this
    exact this
theorem tightB_next (b : Int → Int) (q : Option (Int × Int)) (d : Int) (h : q.isNone = true ∨ (q.getD (0, 0)).2 < b d) : tightStep b q d = some (d, b d) := by
  cases q with
  | none => rfl
  | some p => obtain ⟨x, m⟩ := p; simp at h; simp [tightStep, h]
theorem tightB_same (b : Int → Int) (q : Option (Int × Int)) (d : Int) (h1 : q.isNone = false) (h2 : ¬ (q.getD (0, 0)).2 < b d) : tightStep b q d = q := by
  cases q with
  | none => cases h1
  | some p => obtain ⟨x, m⟩ := p; simp at h2; simp [tightStep]; omega

set_option maxRecDepth 100000 in
set_option maxHeartbeats 2000000 in
theorem tight60 (A : Option Addr) (c : Nat) (l : List S58) (side : Int) (w : World) (hr : Kd.C k58 w A l.length l) (hc : l.length ≤ c) (h : sideErr l side = 0) (hpos : 0 < l.length) :
    Calls Try.prog 60 #[.slice A l.length c, .int .i64 side] w fun e w' => e = .returned (.tuple #[.int .i64 (tightOf l side).1, .int .i64 (tightOf l side).2, .int .i64 0]) ∧ Below w.heap.size w w' := by
  have h56 := Lib.hid (sided_ok A c l side w hr hc h)
  have hlen := checkO_len (sideErr_zero h).1
  have hu71 := Try.underlying71
  have hu73 := Try.underlying73
  have h2' : ((l.length : Int) == 0) = false := by simp; intro h; have : l.length = 0 := by simp [h]
                                                   omega
  clear h
  refine (callsIn_wide (n := 4)).1 ?_
  refine callsIn_of_wp_marks Try.func60 rfl trivial ?_ rfl
  simp only [Try.ntmps60, List.size_toArray, List.length_cons, List.length_nil, Nat.reduceAdd, Nat.reduceSub, Array.replicate_succ, Array.replicate_zero, List.push_toArray, List.append_toArray, List.nil_append, List.cons_append]
  gi_wp2_with (first
    | (refine ⟨trivial, ?_⟩; gi_at_call 56; refine (callsIn_wide.2 h56.out).mono ?_; rintro e w1 ⟨g, A1, c1, rfl, hD, hb1⟩; have HD := Lib.hid hD; have hd0 := hD.o; have hd4 : ∀ o1 o2 o3 o4, ((((w1.alloc o1).alloc o2).alloc o3).alloc o4).cell? ⟨g, 0, none⟩ = some (.slice A l.length c) := fun o1 o2 o3 o4 => cell_al _ (cell_al _ (cell_al _ (cell_al _ hd0))); clear hD)
    | (refine ⟨trivial, ?_⟩; gi_at_call 76; refine (callsIn_wide.2 (days76 A c l.length _)).mono ?_; rintro e w2 ⟨rfl, rfl⟩))
  have c7 := cell_new_l w1 (.pointer (some ⟨g, 0, none⟩)) 67
  have c9 := cell_new_l (w1.alloc (.cells #[.pointer (some ⟨g, 0, none⟩)] 67)) (.bool true) 4
  have c10 := cell_new_l ((w1.alloc (.cells #[.pointer (some ⟨g, 0, none⟩)] 67)).alloc (.cells #[.bool true] 4)) (.int .i64 0) 2
  have c11 := cell_new_l (((w1.alloc (.cells #[.pointer (some ⟨g, 0, none⟩)] 67)).alloc (.cells #[.bool true] 4)).alloc (.cells #[.int .i64 0] 2)) (.int .i64 0) 2
  have cB := cell_new_l ((((w1.alloc (.cells #[.pointer (some ⟨g, 0, none⟩)] 67)).alloc (.cells #[.bool true] 4)).alloc (.cells #[.int .i64 0] 2)).alloc (.cells #[.int .i64 0] 2)) (.slice A l.length c) 71
  have hBL : Below w1.heap.size w1 (((((w1.alloc (.cells #[.pointer (some ⟨g, 0, none⟩)] 67)).alloc (.cells #[.bool true] 4)).alloc (.cells #[.int .i64 0] 2)).alloc (.cells #[.int .i64 0] 2)).alloc (.cells #[.slice A l.length c] 71)) :=
    (((((Below.refl _ w1).alloc (Nat.le_refl _) _).alloc (by simp) _).alloc (by simp; omega) _).alloc (by simp; omega) _).alloc (by simp; omega) _
  simp only [World.size_alloc] at c9 c10 c11 cB
  have hAlt := C_lt HD.out.ho hpos (by intro x cs h e; have := k58_open h; rw [e] at this; cases this)
  refine wpIn_rangeFunc_ownF rfl (by omega) (gf := 87) (lb := #[.pointer (some ⟨w1.heap.size + 1 + 1 + 1 + 1, 0, none⟩)]) rfl trivial (enters_of Try.func87 (by kernel_rfl) rfl)
    (α := Int) (encs := fun x => #[.int .i64 x]) (Kp := KeepC (fun b => b = w1.heap.size + 1 ∨ b = w1.heap.size + 1 + 1 ∨ b = w1.heap.size + 1 + 1 + 1)) (S := fun xs => xs = daysOf l) (Sp := fun _ => True) (N := l.length)
    ?seq (fun h k => KeepC.trans h k) (KeepC.putObj _) (Below.refl _ _) (fun _ => rfl)
    (fun pre W => (W.cell? ⟨w1.heap.size, 0, none⟩ = some (.pointer (some ⟨g, 0, none⟩)) ∧ W.cell? ⟨w1.heap.size + 1, 0, none⟩ = some (.bool (tightF (boundB l side) pre).isNone) ∧ W.frozen? ⟨w1.heap.size + 1, 0, none⟩ = false
      ∧ W.cell? ⟨w1.heap.size + 1 + 1, 0, none⟩ = some (.int .i64 ((tightF (boundB l side) pre).getD (0, 0)).1) ∧ W.frozen? ⟨w1.heap.size + 1 + 1, 0, none⟩ = false
      ∧ W.cell? ⟨w1.heap.size + 1 + 1 + 1, 0, none⟩ = some (.int .i64 ((tightF (boundB l side) pre).getD (0, 0)).2) ∧ W.frozen? ⟨w1.heap.size + 1 + 1 + 1, 0, none⟩ = false) ∧ Below w1.heap.size w1 W)
    (fun _ _ _ => False)
    (OwnFrom.and (Own.from (fun s A B row hs hg hr => ⟨cell_kept hs.1 hg hr, cell_kept hs.2.1 hg hr, (frozen_kept hs.2.1 hg hr).trans hs.2.2.1, cell_kept hs.2.2.2.1 hg hr, (frozen_kept hs.2.2.2.1 hg hr).trans hs.2.2.2.2.1, cell_kept hs.2.2.2.2.2.1 hg hr, (frozen_kept hs.2.2.2.2.2.1 hg hr).trans hs.2.2.2.2.2.2⟩) _) (ownFrom_below (Nat.le_refl _) (by simp; omega)))
    (fun _ _ _ _ _ hs _ _ => hs)
    ⟨⟨cell_al _ (cell_al _ (cell_al _ (cell_al _ c7.1))), cell_al _ (cell_al _ (cell_al _ c9.1)), frozen_alloc_l _ (cell_al _ (cell_al _ c9.1)) (frozen_alloc_l _ (cell_al _ c9.1) (frozen_alloc_l _ c9.1 c9.2)), cell_al _ (cell_al _ c10.1), frozen_alloc_l _ (cell_al _ c10.1) (frozen_alloc_l _ c10.1 c10.2), cell_al _ c11.1, frozen_alloc_l _ c11.1 c11.2⟩, hBL⟩
    (fun x => { tmps := #[.slice A l.length c, .int .i64 side, undef, undef, .int .i64 0, .int .i64 0, .int .i64 0, .pointer (some ⟨w1.heap.size, 0, none⟩), .int .i64 0, .pointer (some ⟨w1.heap.size + 1, 0, none⟩), .pointer (some ⟨w1.heap.size + 1 + 1, 0, none⟩), .pointer (some ⟨w1.heap.size + 1 + 1 + 1, 0, none⟩), .int .i64 x, undef, undef,
      .tuple #[.pointer (some ⟨g, 0, none⟩), .int .i64 0], .slice A l.length c, .int .i64 side, .tuple #[.pointer (some ⟨g, 0, none⟩), .int .i64 0], .pointer (some ⟨g, 0, none⟩), .int .i64 0, .bool false, .int .i64 0, .bool false, undef, .bool false, .slice A l.length c, .int .i64 (l.length : Int), .bool false, .pointer (some ⟨g, 0, none⟩), .pointer (some ⟨g, 0, none⟩), .pointer (some ⟨g, 0, none⟩), .agg #[.slice A l.length c], .func (.func 87) #[] #[.pointer (some ⟨w1.heap.size + 1 + 1 + 1 + 1, 0, none⟩)],
      .int .i64 x, undef, undef, undef, undef, undef, undef, undef, undef, undef, undef, undef, undef, undef, undef, undef, undef], defers := [] }) ?assign ?body ?done ?stop
  case seq =>
    intro ly J Jx W hB hJ _ hY h0
    refine (days87 3 (by omega) ly (w1.heap.size + 1 + 1 + 1 + 1) _ A c l (by omega) J Jx W hJ hY (pw_cell_below hB cB.1) (by omega) (fun ad e => by have := hAlt ad e; omega) (fun b hb => by have := hB.size; simp at this; omega) (Kd.C_below (Kd.C_below HD.out.ho hBL) (hB.mono (by simp))) h0).mono ?_
    rintro e W' ⟨h1, h2⟩
    exact ⟨h1, h2⟩
  case assign =>
    intro ly x W K hK
    gi_wp2
    exact hK
  case body =>
    rintro ly pre x W ⟨⟨e7, e9, f9, e10, f10, e11, f11⟩, hB⟩ _
    have HDW := HD.out.below hB
    have hq : (tightF (boundB l side) (pre ++ [x])) = tightStep (boundB l side) (tightF (boundB l side) pre) x := tightF_snoc _ _ _
    have HQ := Lib.hid hq; clear hq
    have hbx : boundB l side x = (boundFrom x l (worksOf side l)).1 := rfl
    by_cases hn : (tightF (boundB l side) pre).isNone = true ∨ ((tightF (boundB l side) pre).getD (0, 0)).2 < boundB l side x
    · have HS := Lib.hid (HQ.out.trans (tightB_next _ _ _ hn))
      have hlt : (tightF (boundB l side) pre).isNone = false → ((tightF (boundB l side) pre).getD (0, 0)).2 < (boundFrom x l (worksOf side l)).1 := fun h0 => by rcases hn with h1 | h1; (rw [h0] at h1; cases h1); exact h1
      cases hn1 : (tightF (boundB l side) pre).isNone
      all_goals
        rw [hn1] at e9
        have hlt2 := hlt
        rw [hn1] at hlt2
        gi_wp2_with (refine ⟨trivial, ?_⟩; gi_at_call 57; refine (CallsIn.inRound ly (callsIn_wide.2 (bound57 g A A1 c c1 l (worksOf side l) x W HDW))).mono ?_; rintro e W1 ⟨rfl, hb⟩; have d7 := pw_cell_below hb e7; have d9 := pw_cell_below hb e9; have d10 := pw_cell_below hb e10; have d11 := pw_cell_below hb e11; have g9 := (hb.frozen (World.block_lt_of_cell? _ _ e9)).trans f9; have g10 := (hb.frozen (World.block_lt_of_cell? _ _ e10)).trans f10; have g11 := (hb.frozen (World.block_lt_of_cell? _ _ e11)).trans f11)
        gi_wp2
        refine ⟨(keepsOthers_of_below hb).trans (((KeepsOthers.setCell _ _ _).trans (KeepsOthers.setCell _ _ _)).trans (KeepsOthers.setCell _ _ _)), (KeepC.of_below hb).trans (((KeepC.setCell (by simp) _).trans (KeepC.setCell (by simp) _)).trans (KeepC.setCell (by simp) _)), ⟨?_, ?_, ?_, ?_, ?_, ?_, ?_⟩, ((((hB.trans (hb.mono hB.size)).setCell (p := ⟨w1.heap.size + 1 + 1, 0, none⟩) (by first | (simp; done) | (simp; omega)) _).setCell (p := ⟨w1.heap.size + 1 + 1 + 1, 0, none⟩) (by first | (simp; done) | (simp; omega)) _).setCell (p := ⟨w1.heap.size + 1, 0, none⟩) (by first | (simp; done) | (simp; omega)) _)⟩
        all_goals first | (rw [HS.out]; simp [go_sem, d7, d9, d10, d11, g9, g10, g11, hbx]; done) | (simp [go_sem, d7, d9, d10, d11, g9, g10, g11]; done)
    · have HS := Lib.hid (HQ.out.trans (tightB_same _ _ _ (by cases h0 : (tightF (boundB l side) pre).isNone; rfl; exact (hn (.inl h0)).elim) (fun h1 => hn (.inr h1))))
      have hn1 : (tightF (boundB l side) pre).isNone = false := by cases h0 : (tightF (boundB l side) pre).isNone; rfl; exact (hn (.inl h0)).elim
      have hlt : ¬ ((tightF (boundB l side) pre).getD (0, 0)).2 < (boundFrom x l (worksOf side l)).1 := fun h1 => hn (.inr h1)
      rw [hn1] at e9
      gi_wp2_with (refine ⟨trivial, ?_⟩; gi_at_call 57; refine (CallsIn.inRound ly (callsIn_wide.2 (bound57 g A A1 c c1 l (worksOf side l) x W HDW))).mono ?_; rintro e W1 ⟨rfl, hb⟩; have d7 := pw_cell_below hb e7; have d9 := pw_cell_below hb e9; have d10 := pw_cell_below hb e10; have d11 := pw_cell_below hb e11; have g9 := (hb.frozen (World.block_lt_of_cell? _ _ e9)).trans f9; have g10 := (hb.frozen (World.block_lt_of_cell? _ _ e10)).trans f10; have g11 := (hb.frozen (World.block_lt_of_cell? _ _ e11)).trans f11)
      gi_wp2
      refine ⟨keepsOthers_of_below hb, KeepC.of_below hb, ⟨d7, ?_, g9, ?_, g10, ?_, g11⟩, hB.trans (hb.mono hB.size)⟩
      all_goals (rw [HS.out]; first | exact d9.trans (by rw [hn1]) | exact d10 | exact d11)
  case done =>
    rintro D ys W hDD rfl ⟨⟨e7, e9, f9, e10, f10, e11, f11⟩, hB⟩ hK
    gi_wp2
    gi_region
    gi_wp2
    refine ⟨by simp, .inl ⟨_, _, rfl, run_takeDeferred (show (World.drew W).heap[D]? = _ from hK), ?_⟩⟩
    refine ⟨_, by simp [results, Try.f60, go_sem]; exact ⟨rfl, rfl⟩, rfl, ?_⟩
    have hB2 := hb1.trans (hB.mono hb1.size)
    exact hB2.drew.trans (belowK_b (w := w) (Nat.le_refl _) W.drew D _ _ (by have := hb1.size; simp at hDD; omega) hK rfl rfl)
  case stop =>
    rintro D c' pre W _ _ h _
    exact h.elim
end Go.Proofs.Ytmlahfidnfdhbaa.Pr
namespace Go.Proofs.Ytmlahfidnfdhbaa.Pr
open Go.RowKit Go.Proofs.YtmlahfidnfdhbaaW.PrintWords Go.Proofs.YtmlahfidnfdhbaaW.PrintLast Go.Proofs.YtmlahfidnfdhbaaW.PrintMore

def tightR (l : List S58) (side : Int) : Int × Int × Int :=
  if sideErr l side = 0 then (if l.length = 0 then (0, 0, 5) else ((tightOf l side).1, (tightOf l side).2, 0)) else (0, 0, sideErr l side)

set_option maxHeartbeats 400000 in
theorem tightR_ev (A : Option Addr) (c : Nat) (l : List S58) (side : Int) (w : World) (hr : Kd.C k58 w A l.length l) (hc : l.length ≤ c) :
    Calls Try.prog 60 #[.slice A l.length c, .int .i64 side] w fun e w' => e = .returned (.tuple #[.int .i64 (tightR l side).1, .int .i64 (tightR l side).2.1, .int .i64 (tightR l side).2.2]) ∧ Below w.heap.size w w' := by
  unfold tightR
  by_cases h : sideErr l side = 0
  · rw [if_pos h]
    by_cases h0 : l.length = 0
    · rw [if_pos h0]
      have h56 := sided_ok A c l side w hr hc h
      obtain rfl : l = [] := List.eq_nil_of_length_eq_zero h0
      clear h h0
      go_enter Try.func60, Try.ntmps60
      go_wp2_with (go_at_call 56; refine h56.mono ?_; clear h56; rintro e w1 ⟨g, A1, c1, rfl, hD, hb⟩)
      go_ret3
      exact ⟨rfl, hb.trans (((Below.refl _ w1).alloc (Nat.le_refl _) _).mono hb.size)⟩
    · rw [if_neg h0]
      exact tight60 A c l side w hr hc h (by omega)
  · rw [if_neg h]
    have h56 := sided_err A c l side w hr hc h
    have h1 : (sideErr l side != 0) = true := by simp [h]
    have H := Lib.hid h; clear h
    go_enter Try.func60, Try.ntmps60
    go_wp2_with (go_at_call 56; refine h56.mono ?_; clear h56; rintro e w1 ⟨rfl, hb⟩)
    go_ret3
    exact ⟨rfl, hb.trans (((Below.refl _ w1).alloc (Nat.le_refl _) _).mono hb.size)⟩

def late_Shortest.f (l0 : List (S58)) (a1 : Int) : Option (Int × Int) := some ((tightR l0 a1).2.1, (tightR l0 a1).2.2)
def late_Day.f (l0 : List (S58)) (a1 : Int) : Option (Int × Int) := some ((tightR l0 a1).1, (tightR l0 a1).2.2)

set_option maxHeartbeats 400000 in
theorem late_Shortest.calls (A0 : Option Addr) (c0 : Nat) (l0 : List (S58)) (a1 : Int) (r1 : Int) (r2 : Int) (w : World) (hr0 : Kd.C k58 w A0 l0.length l0) (hc0 : l0.length ≤ c0) (h : late_Shortest.f l0 a1 = some (r1, r2)) :
    Calls Try.prog 25 #[.slice A0 l0.length c0, .int .i64 a1] w fun e w' => e = .returned (.tuple #[.int .i64 r1, .int .i64 r2]) ∧ Below w.heap.size w w' := by
  injection h with h
  injection h with h1 h2
  subst h1 h2
  have h60 := tightR_ev A0 c0 l0 a1 w hr0 hc0
  go_enter Try.func25, Try.ntmps25
  go_wp2_with (go_at_call 60; refine h60.mono ?_; clear h60; rintro e w1 ⟨rfl, hb⟩)
  go_ret2
  exact ⟨rfl, hb⟩
set_option maxHeartbeats 400000 in
theorem late_Day.calls (A0 : Option Addr) (c0 : Nat) (l0 : List (S58)) (a1 : Int) (r1 : Int) (r2 : Int) (w : World) (hr0 : Kd.C k58 w A0 l0.length l0) (hc0 : l0.length ≤ c0) (h : late_Day.f l0 a1 = some (r1, r2)) :
    Calls Try.prog 27 #[.slice A0 l0.length c0, .int .i64 a1] w fun e w' => e = .returned (.tuple #[.int .i64 r1, .int .i64 r2]) ∧ Below w.heap.size w w' := by
  injection h with h
  injection h with h1 h2
  subst h1 h2
  have h60 := tightR_ev A0 c0 l0 a1 w hr0 hc0
  go_enter Try.func27, Try.ntmps27
  go_wp2_with (go_at_call 60; refine h60.mono ?_; clear h60; rintro e w1 ⟨rfl, hb⟩)
  go_ret2
  exact ⟨rfl, hb⟩
end Go.Proofs.Ytmlahfidnfdhbaa.Pr
namespace Go.Proofs.Ytmlahfidnfdhbaa.Pr
open Go.RowKit Go.Proofs.YtmlahfidnfdhbaaW.PrintWords Go.Proofs.YtmlahfidnfdhbaaW.PrintLast Go.Proofs.YtmlahfidnfdhbaaW.PrintMore

/-- The least work with which n orders are kept, if the order is not taken. -/
def mostKeep (isW : Bool) (ls : List Int) (n : Nat) : Int := if isW = false then (if n < ls.length then rd ls (n : Int) else -1) else -1
def mostTake (wi due : Int) (p v0 : Int) : Int :=
  if p < 0 then v0 else if wrap64 (p + wi) ≤ due then (if v0 < 0 then wrap64 (p + wi) else if wrap64 (p + wi) < v0 then wrap64 (p + wi) else v0) else v0
def mostEntry (isW : Bool) (wi due : Int) (ls : List Int) : Nat → Int
  | 0 => mostKeep isW ls 0
  | m + 1 => mostTake wi due (rd ls (m : Int)) (mostKeep isW ls (m + 1))
def nextTo (isW : Bool) (wi due : Int) (ls : List Int) : Nat → List Int
  | 0 => List.replicate (ls.length + 1) 0
  | n + 1 => (nextTo isW wi due ls n).set n (mostEntry isW wi due ls n)
theorem nextTo_len (isW : Bool) (wi due : Int) (ls : List Int) : ∀ n, (nextTo isW wi due ls n).length = ls.length + 1
  | 0 => by simp [nextTo]
  | n + 1 => by simp [nextTo, nextTo_len isW wi due ls n]
def mostStep (l : List S58) (ws : List Int) (a1 a2 : Int) (ls : List Int) (i : Int) : List Int :=
  if i = a2 then ls else nextTo (decide (i = a1)) (rd ws i) (rd_T58 l i).f1 ls (ls.length + 1)
def lastOk (ls : List Int) : Nat → Int
  | 0 => -1
  | n + 1 => if rd ls (n : Int) < 0 then lastOk ls n else (n : Int)
def mostLs (l : List S58) (ws : List Int) (a1 a2 : Int) : List Int := (byDueL l).foldl (mostStep l ws a1 a2) [0]
def mostOf (l : List S58) (ws : List Int) (a1 a2 : Int) : Int := lastOk (mostLs l ws a1 a2) (mostLs l ws a1 a2).length

theorem R_put1 {t base : Nat} {ok : Nat → Prop} {W : World} {g L c : Nat} {xs : List Int} (h : Kd.R (Kd.int .i64) t W base ok (.slice (some ⟨g, 0, none⟩) L c) xs) (n : Nat) (v : Int) : Kd.R (Kd.int .i64) t (W.setCell ⟨g, n, none⟩ (.int .i64 v)) base ok (.slice (some ⟨g, 0, none⟩) L c) (xs.set n v) := by
  exact Kd.R_putn (h1 := fun _ => rfl) h (n : Int) v
theorem R_put2 {t base : Nat} {ok : Nat → Prop} {W : World} {g L c : Nat} {xs : List Int} (h : Kd.R (Kd.int .i64) t W base ok (.slice (some ⟨g, 0, none⟩) L c) xs) (n : Nat) (v v' : Int) : Kd.R (Kd.int .i64) t ((W.setCell ⟨g, n, none⟩ (.int .i64 v)).setCell ⟨g, n, none⟩ (.int .i64 v')) base ok (.slice (some ⟨g, 0, none⟩) L c) (xs.set n v') := by
  have := R_put1 (R_put1 h n v) n v'
  rwa [List.set_set] at this
theorem R_set_put {t base : Nat} {ok : Nat → Prop} {W : World} {g L c : Nat} {xs : List Int} {n : Nat} {v : Int} (h : Kd.R (Kd.int .i64) t W base ok (.slice (some ⟨g, 0, none⟩) L c) (xs.set n v)) (v' : Int) : Kd.R (Kd.int .i64) t (W.setCell ⟨g, n, none⟩ (.int .i64 v')) base ok (.slice (some ⟨g, 0, none⟩) L c) (xs.set n v') := by
  have := R_put1 h n v'
  rwa [List.set_set] at this
theorem R_cell_set {t base : Nat} {ok : Nat → Prop} {W : World} {g L c : Nat} {xs : List Int} {n : Nat} {v : Int} (h : Kd.R (Kd.int .i64) t W base ok (.slice (some ⟨g, 0, none⟩) L c) (xs.set n v)) (hn : n < xs.length) :
    W.cell? ⟨g, n, none⟩ = some (.int .i64 v) ∧ W.frozen? ⟨g, n, none⟩ = false := by
  obtain ⟨rfl, _⟩ := Kd.R_reads' h
  obtain ⟨q5, q6⟩ := Kd.R_celln (0 : Int) h (n : Int) (by omega) (by simp; exact hn)
  refine ⟨q5.trans ?_, q6⟩
  simp [rdOf, hn]
theorem grown_drawnB {n : Nat} {A B : World} (h : Below n A B) (m : Nat) : Below n A (B.drewN m) := by
  induction m with
  | zero => exact h
  | succ m ih => first | exact ih.drew | exact Below.drewN h _
theorem mostLs_take (l : List S58) (ws : List Int) (a1 a2 : Int) (k : Nat) (h : k < (byDueL l).length) : ((byDueL l).take (k + 1)).foldl (mostStep l ws a1 a2) [0] = mostStep l ws a1 a2 (((byDueL l).take k).foldl (mostStep l ws a1 a2) [0]) (rd (byDueL l) k) := by
  rw [rd_get _ k h, List.take_succ_eq_append_getElem h, List.foldl_append]; rfl
theorem mostStep_in (l : List S58) (ws : List Int) (a1 a2 : Int) (ls : List Int) (i : Int) (h : i ≠ a2) : mostStep l ws a1 a2 ls i = nextTo (decide (i = a1)) (rd ws i) (rd_T58 l i).f1 ls (ls.length + 1) := if_neg h
theorem mostStep_out (l : List S58) (ws : List Int) (a1 a2 : Int) (ls : List Int) : mostStep l ws a1 a2 ls a2 = ls := if_pos rfl

set_option maxRecDepth 100000 in
set_option maxHeartbeats 1000000 in
theorem most67 (g : Nat) (A A1 : Option Addr) (c c1 : Nat) (l : List S58) (ws : List Int) (a1 a2 : Int) (w : World) (hD : IsDesk w g A c l A1 c1 ws) (hlo : l.length < 20) :
    Calls Try.prog 67 #[.pointer (some ⟨g, 0, none⟩), .int .i64 a1, .int .i64 a2] w fun e w' => e = .returned (.int .i64 (mostOf l ws a1 a2)) ∧ Below w.heap.size w w' := by
  have hu71 := Try.underlying71
  have hu73 := Try.underlying73
  have hu58 := Try.underlying58
  have HD := Lib.hid hD; clear hD
  have e0 := HD.out.o
  have e0a : ∀ o, (w.alloc o).cell? ⟨g, 0, none⟩ = _ := fun o => cell_al o e0
  have HL := Lib.hid (byDueL_len l)
  go_enter Try.func67, Try.ntmps67
  go_wp2_with (go_at_call 52; refine (byDue52 A c l _ hlo (Kd.C_below HD.out.ho ((Below.refl _ w).alloc (Nat.le_refl _) _))).mono ?_; rintro e w1 ⟨v1, rfl, hR1, hb1⟩; obtain ⟨A2, c2, rfl, _, hC1⟩ := Kd.R_reads hR1; rw [HL.out] at hC1; rw [HL.out]; have HC1 := Lib.hid hC1; have hb0 := (((Below.refl _ w).alloc (Nat.le_refl _) (.cells #[.int .i64 0] 2)).trans (hb1.mono (by simp))); have HB1 := Lib.hid hb0; have HC0 := Lib.hid (Kd.C_below (C_lit w 2 _ [0] #[.int .i64 0] rfl rfl (by simp)) hb1); clear hC1 hR1 hb1 hb0)
  go_loopw [7, 21] (fun v i wr => ∃ (k : Nat) (ls : List Int) (b cb : Nat), k ≤ l.length ∧ i = .int .i64 k ∧ v = .slice (some ⟨b, 0, none⟩) ls.length cb ∧ ls.length ≤ cb ∧ 0 < ls.length ∧ ls.length ≤ k + 1 ∧ Hid (((byDueL l).take k).foldl (mostStep l ws a1 a2) [0] = ls) ∧ Hid (Kd.C (Kd.int .i64) wr (some ⟨b, 0, none⟩) ls.length ls) ∧ Hid (Below w1.heap.size w1 wr)) (fun _ i _ => l.length - (intOf i).toNat)
  case atStart => exact ⟨0, [0], w.heap.size, 1, Nat.zero_le _, rfl, rfl, by simp, by simp, by simp, rfl, HC0, Below.refl _ _⟩
  case round =>
    obtain ⟨k, ls, b, cb, hk, rfl, rfl, hcb, hl0, hlk, HF, HC, HB⟩ := hrel
    have HBR := Lib.hid (byDueL_range l)
    by_cases hkl : k < l.length
    · obtain ⟨ad1, rfl, q1⟩ := C_cell (Kd.C_below HC1.out HB.out) k hkl
      obtain ⟨hy0, hy1⟩ := AllP_rd HBR.out k (by rw [HL.out]; exact hkl)
      have hst := mostLs_take l ws a1 a2 k (by rw [HL.out]; exact hkl)
      rw [HF.out] at hst
      obtain ⟨y, hy⟩ := Int.eq_ofNat_of_zero_le hy0
      rw [hy] at hst hy1 q1
      clear hy hy0
      have hyl : y < l.length := by omega
      by_cases hw2 : (y : Int) = a2
      · subst hw2
        have hS := Lib.hid (hst.trans (mostStep_out l ws a1 y ls))
        clear hst
        go_wp2
        go_step3
        go_wp2
        rw [Exit.noGoto_exit]
        go_wp2
        refine ⟨⟨k + 1, ls, b, cb, by omega, by go_num, rfl, hcb, hl0, by omega, hS, HC, HB⟩, by simp [intOf]; omega⟩
      · obtain ⟨isW, hisW⟩ : ∃ b : Bool, b = decide ((y : Int) = a1) := ⟨_, rfl⟩
        have hst2 := hst.trans (mostStep_in l ws a1 a2 ls y hw2)
        rw [← hisW] at hst2
        have hS := Lib.hid hst2
        have HisW := Lib.hid hisW
        clear hst2 hisW
        have hw2' : ((y : Int) == a2) = false := by simp [hw2]
        clear hst
        have hrp : List.replicate ((ls.length : Int) + 1).toNat (0 : Int) = nextTo isW (rd ws y) (rd_T58 l y).f1 ls 0 := by rw [nextTo]; congr 1
        go_wp2
        go_step3
        go_wp2_with ((with_reducible refine gate_dst (N := 31) rfl ?_); refine Kd.R_make (Kd.int .i64) (w0 := wr) wr.heap.size 2 rfl (N := 31) rfl 24 _ _ rfl ((ls.length : Int) + 1) rfl rfl Try.underlying24 (.int .i64 0) 8 info2 rfl (by decide) (by omega) 0 (ok := fun _ => True) (okp := fun _ => True) rfl (fun _ hk => hk) trivial ?a0 ?a1 ?a2 ?a3 ?_; (case a0 => omega); (case a1 => simp; omega); (case a2 => exact Below.refl _ _); (case a3 => exact Nat.le_refl _); intro v3 w3 ho3 hb3 hg_ hnew_; rw [hrp] at ho3; obtain ⟨g3, c3, rfl, hg3, hgl3, _, _⟩ := Kd.R_form ho3 (by rw [nextTo_len]; omega); rw [nextTo_len] at ho3; rw [nextTo_len]; have HO3 := Lib.hid ho3; have HB3 := Lib.hid hb3; clear hg_ hnew_ ho3 hb3)
        go_step3
        obtain ⟨wo, rfl⟩ : ∃ wo : World, wo = wr := ⟨_, rfl⟩
        have hcap3 : ls.length + 1 ≤ c3 := by
          obtain ⟨A7, c7, he7, hle7, _⟩ := Kd.R_reads HO3.out
          injection he7 with h1 h2 h3
          rw [nextTo_len] at hle7
          omega
        have hb3 : b ≠ g3 := by
          obtain ⟨ad, hade, hcell⟩ := C_cell HC.out 0 hl0
          injection hade with hade
          have := World.block_lt_of_cell? _ _ hcell
          rw [add_block, ← hade] at this
          have h2 : b < wo.heap.size := this
          omega
        have hb3' : g3 ≠ b := fun h => hb3 h.symm
        go_wp2
        go_hide hQ
        go_loopw [34] (fun i wr => ∃ n : Nat, n ≤ ls.length + 1 ∧ i = .int .i64 n ∧ Hid (Kd.R (Kd.int .i64) 2 wr wo.heap.size (fun _ => True) (.slice (some ⟨g3, 0, none⟩) (ls.length + 1) c3) (nextTo isW (rd ws y) (rd_T58 l y).f1 ls n)) ∧ Hid (Below wo.heap.size wo wr)) (fun i _ => ls.length + 1 - (intOf i).toNat)
        case atStart => exact ⟨0, Nat.zero_le _, rfl, HO3, HB3⟩
        case round =>
          obtain ⟨n, hn, rfl, HR, HBn⟩ := hrel
          by_cases hnl : n < ls.length + 1
          · have hNS : Hid (nextTo isW (rd ws y) (rd_T58 l y).f1 ls (n + 1) = (nextTo isW (rd ws y) (rd_T58 l y).f1 ls n).set n (mostEntry isW (rd ws y) (rd_T58 l y).f1 ls n)) := rfl
            have hxl := nextTo_len isW (rd ws y) (rd_T58 l y).f1 ls n
            obtain ⟨q5, q6⟩ := Kd.R_celln (0 : Int) HR.out (n : Int) (by omega) (by omega)
            replace q5 : wr.cell? ⟨g3, n, none⟩ = some (.int .i64 _) := q5
            replace q6 : wr.frozen? ⟨g3, n, none⟩ = false := q6
            have HXL := Lib.hid hxl; clear hxl
            generalize nextTo isW (rd ws y) (rd_T58 l y).f1 ls n = xs at *
            generalize rd xs n = x5 at *
            have HCr := Lib.hid (Kd.C_below HC.out HBn.out)
            cases n with
            | zero =>
              obtain ⟨ad, hade, q0⟩ := C_cell HCr.out 0 hl0
              injection hade with hade
              subst hade
              replace q0 : wr.cell? ⟨b, 0, none⟩ = some (.int .i64 (rd ls (0 : Nat))) := q0
              have hd0 : decide ((0 : Int) < (ls.length : Int)) = true := decide_eq_true (by omega)
              by_cases hw1 : (y : Int) = a1
              · have hw1' : ((y : Int) != a1) = false := by simp [hw1]
                go_wp2
                refine ⟨⟨0 + 1, by omega, by go_num, ?_, ?_⟩, by simp [intOf]⟩
                · rw [hNS.out]
                  simp only [mostEntry, mostKeep, HisW.out, hw1]
                  exact R_put1 HR.out 0 _
                · exact HBn.out.setCell (p := ⟨g3, 0, none⟩) hg3 _
              · have hw1' : ((y : Int) != a1) = true := by simp [hw1]
                go_wp2
                refine ⟨⟨0 + 1, by omega, by go_num, ?_, ?_⟩, by simp [intOf]⟩
                · rw [hNS.out]
                  simp only [mostEntry, mostKeep, HisW.out, hw1, decide_false, if_true, if_pos hl0]
                  exact R_put2 HR.out 0 _ _
                · exact (HBn.out.setCell (p := ⟨g3, 0, none⟩) hg3 _).setCell (p := ⟨g3, 0, none⟩) hg3 _
            | succ m =>
              obtain ⟨b', o', hade, _, hcl⟩ := C_at HCr.out hl0
              injection hade with hade
              injection hade with hade1 hade2
              subst hade1 hade2
              have q0 : wr.cell? ⟨b, m, none⟩ = some (.int .i64 (rd ls m)) := by simpa using hcl m (by omega)
              have qn : m + 1 < ls.length → wr.cell? ⟨b, m + 1, none⟩ = some (.int .i64 (rd ls ((m + 1 : Nat) : Int))) := fun h => by simpa using hcl (m + 1) h
              have hm0 : (((m : Int) + 1) == 0) = false := by simp; omega
              clear hcl
              by_cases hp : rd ls m < 0
              all_goals have HPp := Lib.hid hp
              · by_cases hw1 : (y : Int) = a1
                · by_cases hA : m + 1 < ls.length
                  · have hk : mostKeep isW ls (m + 1) = (-1) := by rw [HisW.out]; simp [mostKeep, hw1]
                    obtain rfl := hw1
                    have hw1' : ((y : Int) != (y : Int)) = false := by simp
                    have hd1 : decide ((m : Int) + 1 < (ls.length : Int)) = true := decide_eq_true (by omega)
                    have hdp : decide (rd ls m < 0) = true := decide_eq_true hp
                    go_wp2
                    refine ⟨⟨m + 1 + 1, by omega, by go_num, ?_, ?_⟩, by simp [intOf]; omega⟩
                    · rw [hNS.out]
                      simp only [mostEntry, mostTake, hk, if_pos HPp.out]
                      exact R_put1 HR.out (m + 1) _
                    · exact (HBn.out.setCell (p := ⟨g3, m + 1, none⟩) hg3 _)
                  · have hk : mostKeep isW ls (m + 1) = (-1) := by rw [HisW.out]; simp [mostKeep, hw1]
                    obtain rfl := hw1
                    have hw1' : ((y : Int) != (y : Int)) = false := by simp
                    have hd1 : decide ((m : Int) + 1 < (ls.length : Int)) = false := decide_eq_false (by omega)
                    have hdp : decide (rd ls m < 0) = true := decide_eq_true hp
                    go_wp2
                    refine ⟨⟨m + 1 + 1, by omega, by go_num, ?_, ?_⟩, by simp [intOf]; omega⟩
                    · rw [hNS.out]
                      simp only [mostEntry, mostTake, hk, if_pos HPp.out]
                      exact R_put1 HR.out (m + 1) _
                    · exact (HBn.out.setCell (p := ⟨g3, m + 1, none⟩) hg3 _)
                · by_cases hA : m + 1 < ls.length
                  · have hw1' : ((y : Int) != a1) = true := by simp [hw1]
                    have hd1 : decide ((m : Int) + 1 < (ls.length : Int)) = true := decide_eq_true (by omega)
                    have qn' := qn hA
                    have hk : mostKeep isW ls (m + 1) = (rd ls ((m + 1 : Nat) : Int)) := by rw [HisW.out]; simp [mostKeep, hw1, hA]
                    have hdp : decide (rd ls m < 0) = true := decide_eq_true hp
                    go_wp2
                    refine ⟨⟨m + 1 + 1, by omega, by go_num, ?_, ?_⟩, by simp [intOf]; omega⟩
                    · rw [hNS.out]
                      simp only [mostEntry, mostTake, hk, if_pos HPp.out]
                      exact R_put2 HR.out (m + 1) _ _
                    · exact ((HBn.out.setCell (p := ⟨g3, m + 1, none⟩) hg3 _).setCell (p := ⟨g3, m + 1, none⟩) hg3 _)
                  · have hw1' : ((y : Int) != a1) = true := by simp [hw1]
                    have hd1 : decide ((m : Int) + 1 < (ls.length : Int)) = false := decide_eq_false (by omega)
                    have hk : mostKeep isW ls (m + 1) = (-1) := by rw [HisW.out]; simp [mostKeep, hw1, hA]
                    have hdp : decide (rd ls m < 0) = true := decide_eq_true hp
                    go_wp2
                    refine ⟨⟨m + 1 + 1, by omega, by go_num, ?_, ?_⟩, by simp [intOf]; omega⟩
                    · rw [hNS.out]
                      simp only [mostEntry, mostTake, hk, if_pos HPp.out]
                      exact R_put1 HR.out (m + 1) _
                    · exact (HBn.out.setCell (p := ⟨g3, m + 1, none⟩) hg3 _)
              · by_cases hw1 : (y : Int) = a1
                · by_cases hA : m + 1 < ls.length
                  · have hk : mostKeep isW ls (m + 1) = (-1) := by rw [HisW.out]; simp [mostKeep, hw1]
                    obtain rfl := hw1
                    have hw1' : ((y : Int) != (y : Int)) = false := by simp
                    have hd1 : decide ((m : Int) + 1 < (ls.length : Int)) = true := decide_eq_true (by omega)
                    have hdp : decide (rd ls m < 0) = false := decide_eq_false hp
                    go_wp2
                    obtain ⟨wz, hwz⟩ : ∃ wz : World, wz = (wr.setCell ⟨g3, m + 1, none⟩ (.int .i64 (-1))) := ⟨_, rfl⟩
                    have HRz : Hid (Kd.R (Kd.int .i64) 2 wz wo.heap.size (fun _ => True) (.slice (some ⟨g3, 0, none⟩) (ls.length + 1) c3) (xs.set (m + 1) (-1))) := by rw [hwz]; exact R_put1 HR.out (m + 1) _
                    have HBz : Hid (Below wo.heap.size wo wz) := by rw [hwz]; exact (HBn.out.setCell (p := ⟨g3, m + 1, none⟩) hg3 _)
                    rw [← hwz]
                    clear hwz qn
                    obtain ⟨q5z, q6z⟩ := R_cell_set HRz.out (by rw [HXL.out]; omega)
                    have dz := ((HD.out.below HB1.out).below HB.out).below HBz.out
                    obtain ⟨b', o', hade, _, hcl⟩ := C_at (Kd.C_below HC.out HBz.out) hl0
                    injection hade with hade
                    injection hade with hade1 hade2
                    subst hade1 hade2
                    have q0z : wz.cell? ⟨b, m, none⟩ = some (.int .i64 (rd ls m)) := by simpa using hcl m (by omega)
                    have dk := dz.k
                    have do_ := dz.o
                    obtain ⟨ad2, rfl, t1, t2, t3⟩ := at_T58 dz.ho y (by omega) (by omega)
                    obtain ⟨ad3, rfl, t4⟩ := C_cell dz.hk y hyl
                    simp only [Int.toNat_natCast] at t1 t2 t3 t4
                    clear hcl dz t1 t2
                    by_cases hle : wrap64 (rd ls m + rd ws y) ≤ (rd_T58 l y).f1
                    · have hdle : decide (wrap64 (rd ls m + rd ws y) ≤ (rd_T58 l y).f1) = true := decide_eq_true hle
                      have hE : mostEntry isW (rd ws y) (rd_T58 l y).f1 ls (m + 1) = wrap64 (rd ls m + rd ws y) := by simp only [mostEntry, mostTake, hk, if_neg (show ¬ rd ls (m : Int) < 0 by have := HPp.out; omega), if_pos hle, if_pos (show (-1 : Int) < 0 by decide)]
                      go_quiet (fail)
                      go_wp2
                      refine ⟨⟨m + 1 + 1, by omega, by go_num, ?_, ?_⟩, by simp [intOf]; omega⟩
                      · rw [hNS.out, hE]; exact R_set_put (Kd.R_drewN HRz.out nq) _
                      · exact (grown_drawnB HBz.out nq).setCell (p := ⟨g3, m + 1, none⟩) hg3 _
                    · have hdle : decide (wrap64 (rd ls m + rd ws y) ≤ (rd_T58 l y).f1) = false := decide_eq_false hle
                      have hE : mostEntry isW (rd ws y) (rd_T58 l y).f1 ls (m + 1) = (-1) := by simp only [mostEntry, mostTake, hk, if_neg (show ¬ rd ls (m : Int) < 0 by have := HPp.out; omega), if_neg hle]
                      go_quiet (fail)
                      go_wp2
                      refine ⟨⟨m + 1 + 1, by omega, by go_num, ?_, ?_⟩, by simp [intOf]; omega⟩
                      · rw [hNS.out, hE]; exact Kd.R_drewN HRz.out nq
                      · exact grown_drawnB HBz.out nq
                  · have hk : mostKeep isW ls (m + 1) = (-1) := by rw [HisW.out]; simp [mostKeep, hw1]
                    obtain rfl := hw1
                    have hw1' : ((y : Int) != (y : Int)) = false := by simp
                    have hd1 : decide ((m : Int) + 1 < (ls.length : Int)) = false := decide_eq_false (by omega)
                    have hdp : decide (rd ls m < 0) = false := decide_eq_false hp
                    go_wp2
                    obtain ⟨wz, hwz⟩ : ∃ wz : World, wz = (wr.setCell ⟨g3, m + 1, none⟩ (.int .i64 (-1))) := ⟨_, rfl⟩
                    have HRz : Hid (Kd.R (Kd.int .i64) 2 wz wo.heap.size (fun _ => True) (.slice (some ⟨g3, 0, none⟩) (ls.length + 1) c3) (xs.set (m + 1) (-1))) := by rw [hwz]; exact R_put1 HR.out (m + 1) _
                    have HBz : Hid (Below wo.heap.size wo wz) := by rw [hwz]; exact (HBn.out.setCell (p := ⟨g3, m + 1, none⟩) hg3 _)
                    rw [← hwz]
                    clear hwz qn
                    obtain ⟨q5z, q6z⟩ := R_cell_set HRz.out (by rw [HXL.out]; omega)
                    have dz := ((HD.out.below HB1.out).below HB.out).below HBz.out
                    obtain ⟨b', o', hade, _, hcl⟩ := C_at (Kd.C_below HC.out HBz.out) hl0
                    injection hade with hade
                    injection hade with hade1 hade2
                    subst hade1 hade2
                    have q0z : wz.cell? ⟨b, m, none⟩ = some (.int .i64 (rd ls m)) := by simpa using hcl m (by omega)
                    have dk := dz.k
                    have do_ := dz.o
                    obtain ⟨ad2, rfl, t1, t2, t3⟩ := at_T58 dz.ho y (by omega) (by omega)
                    obtain ⟨ad3, rfl, t4⟩ := C_cell dz.hk y hyl
                    simp only [Int.toNat_natCast] at t1 t2 t3 t4
                    clear hcl dz t1 t2
                    by_cases hle : wrap64 (rd ls m + rd ws y) ≤ (rd_T58 l y).f1
                    · have hdle : decide (wrap64 (rd ls m + rd ws y) ≤ (rd_T58 l y).f1) = true := decide_eq_true hle
                      have hE : mostEntry isW (rd ws y) (rd_T58 l y).f1 ls (m + 1) = wrap64 (rd ls m + rd ws y) := by simp only [mostEntry, mostTake, hk, if_neg (show ¬ rd ls (m : Int) < 0 by have := HPp.out; omega), if_pos hle, if_pos (show (-1 : Int) < 0 by decide)]
                      go_quiet (fail)
                      go_wp2
                      refine ⟨⟨m + 1 + 1, by omega, by go_num, ?_, ?_⟩, by simp [intOf]; omega⟩
                      · rw [hNS.out, hE]; exact R_set_put (Kd.R_drewN HRz.out nq) _
                      · exact (grown_drawnB HBz.out nq).setCell (p := ⟨g3, m + 1, none⟩) hg3 _
                    · have hdle : decide (wrap64 (rd ls m + rd ws y) ≤ (rd_T58 l y).f1) = false := decide_eq_false hle
                      have hE : mostEntry isW (rd ws y) (rd_T58 l y).f1 ls (m + 1) = (-1) := by simp only [mostEntry, mostTake, hk, if_neg (show ¬ rd ls (m : Int) < 0 by have := HPp.out; omega), if_neg hle]
                      go_quiet (fail)
                      go_wp2
                      refine ⟨⟨m + 1 + 1, by omega, by go_num, ?_, ?_⟩, by simp [intOf]; omega⟩
                      · rw [hNS.out, hE]; exact Kd.R_drewN HRz.out nq
                      · exact grown_drawnB HBz.out nq
                · by_cases hA : m + 1 < ls.length
                  · have hw1' : ((y : Int) != a1) = true := by simp [hw1]
                    have hd1 : decide ((m : Int) + 1 < (ls.length : Int)) = true := decide_eq_true (by omega)
                    have qn' := qn hA
                    have hk : mostKeep isW ls (m + 1) = (rd ls ((m + 1 : Nat) : Int)) := by rw [HisW.out]; simp [mostKeep, hw1, hA]
                    have hdp : decide (rd ls m < 0) = false := decide_eq_false hp
                    go_wp2
                    obtain ⟨wz, hwz⟩ : ∃ wz : World, wz = ((wr.setCell ⟨g3, m + 1, none⟩ (.int .i64 (-1))).setCell ⟨g3, m + 1, none⟩ (.int .i64 (rd ls ((m : Int) + 1)))) := ⟨_, rfl⟩
                    have HRz : Hid (Kd.R (Kd.int .i64) 2 wz wo.heap.size (fun _ => True) (.slice (some ⟨g3, 0, none⟩) (ls.length + 1) c3) (xs.set (m + 1) (rd ls ((m + 1 : Nat) : Int)))) := by rw [hwz]; exact R_put2 HR.out (m + 1) _ _
                    have HBz : Hid (Below wo.heap.size wo wz) := by rw [hwz]; exact ((HBn.out.setCell (p := ⟨g3, m + 1, none⟩) hg3 _).setCell (p := ⟨g3, m + 1, none⟩) hg3 _)
                    rw [← hwz]
                    clear hwz qn
                    obtain ⟨q5z, q6z⟩ := R_cell_set HRz.out (by rw [HXL.out]; omega)
                    have dz := ((HD.out.below HB1.out).below HB.out).below HBz.out
                    obtain ⟨b', o', hade, _, hcl⟩ := C_at (Kd.C_below HC.out HBz.out) hl0
                    injection hade with hade
                    injection hade with hade1 hade2
                    subst hade1 hade2
                    have q0z : wz.cell? ⟨b, m, none⟩ = some (.int .i64 (rd ls m)) := by simpa using hcl m (by omega)
                    have dk := dz.k
                    have do_ := dz.o
                    obtain ⟨ad2, rfl, t1, t2, t3⟩ := at_T58 dz.ho y (by omega) (by omega)
                    obtain ⟨ad3, rfl, t4⟩ := C_cell dz.hk y hyl
                    simp only [Int.toNat_natCast] at t1 t2 t3 t4
                    clear hcl dz t1 t2
                    by_cases hle : wrap64 (rd ls m + rd ws y) ≤ (rd_T58 l y).f1
                    · have hdle : decide (wrap64 (rd ls m + rd ws y) ≤ (rd_T58 l y).f1) = true := decide_eq_true hle
                      by_cases hv : rd ls ((m + 1 : Nat) : Int) < 0
                      · have hdv : decide (rd ls ((m : Int) + 1) < 0) = true := decide_eq_true hv
                        have hE : mostEntry isW (rd ws y) (rd_T58 l y).f1 ls (m + 1) = wrap64 (rd ls m + rd ws y) := by simp only [mostEntry, mostTake, hk, if_neg (show ¬ rd ls (m : Int) < 0 by have := HPp.out; omega), if_pos hle, if_pos hv]
                        go_quiet (fail)
                        go_wp2
                        refine ⟨⟨m + 1 + 1, by omega, by go_num, ?_, ?_⟩, by simp [intOf]; omega⟩
                        · rw [hNS.out, hE]; exact R_set_put (Kd.R_drewN HRz.out nq) _
                        · exact (grown_drawnB HBz.out nq).setCell (p := ⟨g3, m + 1, none⟩) hg3 _
                      · have hdv : decide (rd ls ((m : Int) + 1) < 0) = false := decide_eq_false hv
                        by_cases hlt : wrap64 (rd ls m + rd ws y) < rd ls ((m + 1 : Nat) : Int)
                        · have hdl : decide (wrap64 (rd ls m + rd ws y) < rd ls ((m : Int) + 1)) = true := decide_eq_true hlt
                          have hE : mostEntry isW (rd ws y) (rd_T58 l y).f1 ls (m + 1) = wrap64 (rd ls m + rd ws y) := by simp only [mostEntry, mostTake, hk, if_neg (show ¬ rd ls (m : Int) < 0 by have := HPp.out; omega), if_pos hle, if_neg hv, if_pos hlt]
                          go_quiet (fail)
                          go_wp2
                          refine ⟨⟨m + 1 + 1, by omega, by go_num, ?_, ?_⟩, by simp [intOf]; omega⟩
                          · rw [hNS.out, hE]; exact R_set_put (Kd.R_drewN HRz.out nq) _
                          · exact (grown_drawnB HBz.out nq).setCell (p := ⟨g3, m + 1, none⟩) hg3 _
                        · have hdl : decide (wrap64 (rd ls m + rd ws y) < rd ls ((m : Int) + 1)) = false := decide_eq_false hlt
                          have hE : mostEntry isW (rd ws y) (rd_T58 l y).f1 ls (m + 1) = (rd ls ((m + 1 : Nat) : Int)) := by simp only [mostEntry, mostTake, hk, if_neg (show ¬ rd ls (m : Int) < 0 by have := HPp.out; omega), if_pos hle, if_neg hv, if_neg hlt]
                          go_quiet (fail)
                          go_wp2
                          refine ⟨⟨m + 1 + 1, by omega, by go_num, ?_, ?_⟩, by simp [intOf]; omega⟩
                          · rw [hNS.out, hE]; exact Kd.R_drewN HRz.out nq
                          · exact grown_drawnB HBz.out nq
                    · have hdle : decide (wrap64 (rd ls m + rd ws y) ≤ (rd_T58 l y).f1) = false := decide_eq_false hle
                      have hE : mostEntry isW (rd ws y) (rd_T58 l y).f1 ls (m + 1) = (rd ls ((m + 1 : Nat) : Int)) := by simp only [mostEntry, mostTake, hk, if_neg (show ¬ rd ls (m : Int) < 0 by have := HPp.out; omega), if_neg hle]
                      go_quiet (fail)
                      go_wp2
                      refine ⟨⟨m + 1 + 1, by omega, by go_num, ?_, ?_⟩, by simp [intOf]; omega⟩
                      · rw [hNS.out, hE]; exact Kd.R_drewN HRz.out nq
                      · exact grown_drawnB HBz.out nq
                  · have hw1' : ((y : Int) != a1) = true := by simp [hw1]
                    have hd1 : decide ((m : Int) + 1 < (ls.length : Int)) = false := decide_eq_false (by omega)
                    have hk : mostKeep isW ls (m + 1) = (-1) := by rw [HisW.out]; simp [mostKeep, hw1, hA]
                    have hdp : decide (rd ls m < 0) = false := decide_eq_false hp
                    go_wp2
                    obtain ⟨wz, hwz⟩ : ∃ wz : World, wz = (wr.setCell ⟨g3, m + 1, none⟩ (.int .i64 (-1))) := ⟨_, rfl⟩
                    have HRz : Hid (Kd.R (Kd.int .i64) 2 wz wo.heap.size (fun _ => True) (.slice (some ⟨g3, 0, none⟩) (ls.length + 1) c3) (xs.set (m + 1) (-1))) := by rw [hwz]; exact R_put1 HR.out (m + 1) _
                    have HBz : Hid (Below wo.heap.size wo wz) := by rw [hwz]; exact (HBn.out.setCell (p := ⟨g3, m + 1, none⟩) hg3 _)
                    rw [← hwz]
                    clear hwz qn
                    obtain ⟨q5z, q6z⟩ := R_cell_set HRz.out (by rw [HXL.out]; omega)
                    have dz := ((HD.out.below HB1.out).below HB.out).below HBz.out
                    obtain ⟨b', o', hade, _, hcl⟩ := C_at (Kd.C_below HC.out HBz.out) hl0
                    injection hade with hade
                    injection hade with hade1 hade2
                    subst hade1 hade2
                    have q0z : wz.cell? ⟨b, m, none⟩ = some (.int .i64 (rd ls m)) := by simpa using hcl m (by omega)
                    have dk := dz.k
                    have do_ := dz.o
                    obtain ⟨ad2, rfl, t1, t2, t3⟩ := at_T58 dz.ho y (by omega) (by omega)
                    obtain ⟨ad3, rfl, t4⟩ := C_cell dz.hk y hyl
                    simp only [Int.toNat_natCast] at t1 t2 t3 t4
                    clear hcl dz t1 t2
                    by_cases hle : wrap64 (rd ls m + rd ws y) ≤ (rd_T58 l y).f1
                    · have hdle : decide (wrap64 (rd ls m + rd ws y) ≤ (rd_T58 l y).f1) = true := decide_eq_true hle
                      have hE : mostEntry isW (rd ws y) (rd_T58 l y).f1 ls (m + 1) = wrap64 (rd ls m + rd ws y) := by simp only [mostEntry, mostTake, hk, if_neg (show ¬ rd ls (m : Int) < 0 by have := HPp.out; omega), if_pos hle, if_pos (show (-1 : Int) < 0 by decide)]
                      go_quiet (fail)
                      go_wp2
                      refine ⟨⟨m + 1 + 1, by omega, by go_num, ?_, ?_⟩, by simp [intOf]; omega⟩
                      · rw [hNS.out, hE]; exact R_set_put (Kd.R_drewN HRz.out nq) _
                      · exact (grown_drawnB HBz.out nq).setCell (p := ⟨g3, m + 1, none⟩) hg3 _
                    · have hdle : decide (wrap64 (rd ls m + rd ws y) ≤ (rd_T58 l y).f1) = false := decide_eq_false hle
                      have hE : mostEntry isW (rd ws y) (rd_T58 l y).f1 ls (m + 1) = (-1) := by simp only [mostEntry, mostTake, hk, if_neg (show ¬ rd ls (m : Int) < 0 by have := HPp.out; omega), if_neg hle]
                      go_quiet (fail)
                      go_wp2
                      refine ⟨⟨m + 1 + 1, by omega, by go_num, ?_, ?_⟩, by simp [intOf]; omega⟩
                      · rw [hNS.out, hE]; exact Kd.R_drewN HRz.out nq
                      · exact grown_drawnB HBz.out nq
          · obtain rfl : n = ls.length + 1 := by omega
            go_wp2
            subst hQ
            go_wp2
            rw [Exit.noGoto_normal]
            go_wp2
            refine ⟨⟨k + 1, nextTo isW (rd ws y) (rd_T58 l y).f1 ls (ls.length + 1), g3, c3, by omega, by go_num, by rw [nextTo_len], ?_, ?_, ?_, hS, ?_, ?_⟩, by simp [intOf]; omega⟩
            · rw [nextTo_len]; exact hcap3
            · rw [nextTo_len]; omega
            · rw [nextTo_len]; omega
            · exact (Kd.R_reads' HR.out).2.2
            · exact HB.out.trans (HBn.out.mono HB.out.size)
    · obtain rfl : k = l.length := by omega
      have hF := HF.out
      rw [List.take_of_length_le (by rw [HL.out]; exact Nat.le_refl _)] at hF
      have HF2 := Lib.hid hF; clear hF
      have hls : ls.length ≤ 9223372036854775807 := HC.out.2.1
      go_wp2
      go_loopw [13] (fun i wq => ∃ n : Nat, n ≤ ls.length ∧ i = .int .i64 ((n : Int) - 1) ∧ Hid (lastOk ls n = mostOf l ws a1 a2) ∧ wr = wq) (fun i _ => ((intOf i) + 1).toNat)
      case atStart =>
        refine ⟨ls.length, Nat.le_refl _, rfl, ?_, rfl⟩
        unfold mostOf mostLs
        rw [HF2.out]
        exact rfl
      case round =>
        obtain ⟨n, hn, hi, HLo, rfl⟩ := hrel
        cases n with
        | zero =>
          obtain rfl : u13 = .int .i64 (-1) := hi
          have hv := HLo.out
          simp only [lastOk] at hv
          have HV := Lib.hid hv; clear hv
          go_wp2
          go_ret
          rw [← HV.out]
          exact ⟨rfl, HB1.out.trans (HB.out.mono HB1.out.size)⟩
        | succ m =>
          obtain rfl : u13 = .int .i64 (m : Int) := by rw [hi]; congr 1; omega
          obtain ⟨b', o', hade, _, hcl⟩ := C_at HC.out hl0
          injection hade with hade
          injection hade with hade1 hade2
          subst hade1 hade2
          have q0 : wr.cell? ⟨b, m, none⟩ = some (.int .i64 (rd ls m)) := by simpa using hcl m (by omega)
          have hv := HLo.out
          simp only [lastOk] at hv
          have HV := Lib.hid hv; clear hv hi hcl
          by_cases hp : rd ls m < 0
          · have hv := HV.out
            rw [if_pos hp] at hv
            have HV2 := Lib.hid hv; clear hv
            go_wp2
            refine ⟨⟨m, by omega, by go_num, HV2, by trivial⟩, by simp [intOf]⟩
          · have hv := HV.out
            rw [if_neg hp] at hv
            have HV2 := Lib.hid hv; clear hv
            have hp2 : 0 ≤ rd ls m := by omega
            go_wp2
            go_ret
            rw [← HV2.out]
            exact ⟨rfl, HB1.out.trans (HB.out.mono HB1.out.size)⟩
end Go.Proofs.Ytmlahfidnfdhbaa.Pr
namespace Go.Proofs.Ytmlahfidnfdhbaa.Pr
open Go.RowKit Go.Proofs.YtmlahfidnfdhbaaW.PrintWords Go.Proofs.YtmlahfidnfdhbaaW.PrintLast Go.Proofs.YtmlahfidnfdhbaaW.PrintMore

def late_Fewest.f (l0 : List (S58)) (a1 : Int) : Option (Int × Int) := some (if sideErr l0 a1 = 0 then (wrap64 (l0.length - mostOf l0 (worksOf a1 l0) (-1) (-1)), 0) else (0, sideErr l0 a1))

set_option maxHeartbeats 400000 in
theorem late_Fewest.calls (A0 : Option Addr) (c0 : Nat) (l0 : List (S58)) (a1 : Int) (r1 : Int) (r2 : Int) (w : World) (hr0 : Kd.C k58 w A0 l0.length l0) (hc0 : l0.length ≤ c0) (h : late_Fewest.f l0 a1 = some (r1, r2)) :
    Calls Try.prog 34 #[.slice A0 l0.length c0, .int .i64 a1] w fun e w' => e = .returned (.tuple #[.int .i64 r1, .int .i64 r2]) ∧ Below w.heap.size w w' := by
  unfold late_Fewest.f at h
  injection h with h
  have H := Lib.hid h; clear h
  by_cases h1 : sideErr l0 a1 = 0
  · have hh := H.out
    rw [if_pos h1] at hh
    have h56 := sided_ok A0 c0 l0 a1 w hr0 hc0 h1
    have hlen := checkO_len (sideErr_zero h1).1
    injection hh with e1 e2
    have H1 := Lib.hid e1; have H2 := Lib.hid e2
    clear h1 e1 e2
    go_enter Try.func34, Try.ntmps34
    go_wp2_with (first
      | (go_at_call 56; refine h56.mono ?_; clear h56; rintro e w1 ⟨g, A1, c1, rfl, hD, hb⟩; have HD := Lib.hid hD; clear hD)
      | (go_at_call 67; refine (most67 g A0 A1 c0 c1 l0 (worksOf a1 l0) (-1) (-1) w1 HD.out (by omega)).mono ?_; rintro e w2 ⟨rfl, hb2⟩))
    go_ret2
    rw [← H1.out, ← H2.out]
    exact ⟨rfl, hb.trans (hb2.mono hb.size)⟩
  · have hh := H.out
    rw [if_neg h1] at hh
    have h56 := sided_err A0 c0 l0 a1 w hr0 hc0 h1
    injection hh with e1 e2
    have H1 := Lib.hid e1; have H2 := Lib.hid e2
    have hz : (sideErr l0 a1 != 0) = true := by simpa using h1
    have hz' : (sideErr l0 a1 == 0) = false := by simpa using h1
    clear h1 e1 e2
    generalize sideErr l0 a1 = q at *
    go_enter Try.func34, Try.ntmps34
    go_wp2_with (go_at_call 56; refine h56.mono ?_; clear h56; rintro e w1 ⟨rfl, hb⟩)
    go_ret2
    rw [← H1.out, ← H2.out]
    exact ⟨rfl, hb⟩

def late_Kind.f (l0 : List (S58)) (a1 a2 : Int) : Option (Int × Int) := some (
  if sideErr l0 a1 = 0 then (if within_ 0 ((l0.length : Int) - 1) [a2] = true then (if mostOf l0 (worksOf a1 l0) (-1) a2 < mostOf l0 (worksOf a1 l0) (-1) (-1) then (2, 0) else if mostOf l0 (worksOf a1 l0) a2 (-1) = mostOf l0 (worksOf a1 l0) (-1) (-1) then (1, 0) else (0, 0)) else (0, 2)) else (0, sideErr l0 a1))

set_option maxRecDepth 100000 in
set_option maxHeartbeats 400000 in
theorem late_Kind.calls (A0 : Option Addr) (c0 : Nat) (l0 : List (S58)) (a1 a2 : Int) (r1 : Int) (r2 : Int) (w : World) (hr0 : Kd.C k58 w A0 l0.length l0) (hc0 : l0.length ≤ c0) (h : late_Kind.f l0 a1 a2 = some (r1, r2)) :
    Calls Try.prog 36 #[.slice A0 l0.length c0, .int .i64 a1, .int .i64 a2] w fun e w' => e = .returned (.tuple #[.int .i64 r1, .int .i64 r2]) ∧ Below w.heap.size w w' := by
  unfold late_Kind.f at h
  injection h with h
  have H := Lib.hid h; clear h
  by_cases h1 : sideErr l0 a1 = 0
  · have hh := H.out
    rw [if_pos h1] at hh
    have h56 := sided_ok A0 c0 l0 a1 w hr0 hc0 h1
    have hlen := checkO_len (sideErr_zero h1).1
    have HH := Lib.hid hh
    clear h1 hh
    cases h2 : within_ 0 ((l0.length : Int) - 1) [a2]
    · have hh := HH.out
      rw [h2] at hh
      simp at hh
      obtain ⟨rfl, rfl⟩ := hh
      have HW := Lib.hid h2; clear h2
      go_enter Try.func36, Try.ntmps36
      go_wp2_with (go_at_call 56; refine h56.mono ?_; clear h56; rintro e w1 ⟨g, A1, c1, rfl, hD, hb⟩; have HD := Lib.hid hD; clear hD)
      have h42 : Calls Try.prog 42 #[.int .i64 0, .int .i64 ((l0.length : Int) - 1), .slice (some ⟨w1.heap.size, 0, none⟩) 1 1] _ _ := late_within.calls 0 ((l0.length : Int) - 1) (some ⟨w1.heap.size, 0, none⟩) 1 [a2] false _ (C_lit w1 2 _ [a2] #[.int .i64 a2] rfl rfl (by simp)) (by simp) (congrArg some HW.out)
      go_wp2_with (go_at_call 42; refine h42.mono ?_; clear h42; rintro e w2 ⟨rfl, hb2⟩)
      go_ret2
      exact ⟨rfl, (hb.alloc hb.size _).trans (hb2.mono (by have := hb.size; simp; omega))⟩
    · have hh := HH.out
      rw [h2, if_pos rfl] at hh
      have HW := Lib.hid h2; clear h2 HH H
      have m67 := fun g A1 c1 w a b hD => most67 g A0 A1 c0 c1 l0 (worksOf a1 l0) a b w hD (by omega)
      have H67 := Lib.hid m67; clear m67
      obtain ⟨n1, e1⟩ : ∃ n, mostOf l0 (worksOf a1 l0) (-1) (-1) = n := ⟨_, rfl⟩
      obtain ⟨n2, e2⟩ : ∃ n, mostOf l0 (worksOf a1 l0) (-1) a2 = n := ⟨_, rfl⟩
      obtain ⟨n3, e3⟩ : ∃ n, mostOf l0 (worksOf a1 l0) a2 (-1) = n := ⟨_, rfl⟩
      rw [e1, e2, e3] at hh
      have E1 := Lib.hid e1; have E2 := Lib.hid e2; have E3 := Lib.hid e3
      have HHH := Lib.hid hh; clear hh e1 e2 e3
      have start : ∀ (g : Nat) (A1 : Option Addr) (c1 : Nat) (w1 : World), Calls Try.prog 42 #[.int .i64 0, .int .i64 ((l0.length : Int) - 1), .slice (some ⟨w1.heap.size, 0, none⟩) 1 1] (w1.alloc (.cells #[.int .i64 a2] 2)) fun e w' => e = .returned (.bool true) ∧ Below (w1.alloc (.cells #[.int .i64 a2] 2)).heap.size (w1.alloc (.cells #[.int .i64 a2] 2)) w' := fun g A1 c1 w1 => late_within.calls 0 ((l0.length : Int) - 1) (some ⟨w1.heap.size, 0, none⟩) 1 [a2] true _ (C_lit w1 2 _ [a2] #[.int .i64 a2] rfl rfl (by simp)) (by simp) (congrArg some HW.out)
      have H42 := Lib.hid start; clear start
      by_cases hc1 : n2 < n1
      · have hx := HHH.out
        rw [if_pos hc1] at hx
        simp at hx
        obtain ⟨rfl, rfl⟩ := hx
        go_enter Try.func36, Try.ntmps36
        go_wp2_with (go_at_call 56; refine h56.mono ?_; clear h56; rintro e w1 ⟨g, A1, c1, rfl, hD, hb⟩; have HD := Lib.hid hD; clear hD)
        go_wp2_with (go_at_call 42; refine (H42.out g A1 c1 w1).mono ?_; rintro e w2 ⟨rfl, hb2⟩; have HB3 : Hid (Below w1.heap.size w1 w2) := ((Below.refl _ w1).alloc (Nat.le_refl _) _).trans (hb2.mono (by simp)); clear hb2)
        go_wp2_with (go_at_call 67; (have m := H67.out g A1 c1 w2 (-1) (-1) (HD.out.below HB3.out)); rw [E1.out] at m; (with_reducible refine m.mono ?_); clear m; rintro e w4 ⟨rfl, hbx⟩; have HB4 := Lib.hid (HB3.out.trans (hbx.mono HB3.out.size)); clear hbx)
        go_wp2_with (go_at_call 67; (have m := H67.out g A1 c1 w4 (-1) a2 (HD.out.below HB4.out)); rw [E2.out] at m; (with_reducible refine m.mono ?_); clear m; rintro e w5 ⟨rfl, hbx⟩; have HB5 := Lib.hid (HB4.out.trans (hbx.mono HB4.out.size)); clear hbx)
        go_ret2
        exact ⟨rfl, hb.trans (HB5.out.mono hb.size)⟩
      · have hx := HHH.out
        rw [if_neg hc1] at hx
        by_cases hc2 : n3 = n1
        · rw [if_pos hc2] at hx
          simp at hx
          obtain ⟨rfl, rfl⟩ := hx
          have hc2' : (n3 == n1) = true := by simp [hc2]
          clear hc2
          go_enter Try.func36, Try.ntmps36
          go_wp2_with (go_at_call 56; refine h56.mono ?_; clear h56; rintro e w1 ⟨g, A1, c1, rfl, hD, hb⟩; have HD := Lib.hid hD; clear hD)
          go_wp2_with (go_at_call 42; refine (H42.out g A1 c1 w1).mono ?_; rintro e w2 ⟨rfl, hb2⟩; have HB3 : Hid (Below w1.heap.size w1 w2) := ((Below.refl _ w1).alloc (Nat.le_refl _) _).trans (hb2.mono (by simp)); clear hb2)
          go_wp2_with (go_at_call 67; (have m := H67.out g A1 c1 w2 (-1) (-1) (HD.out.below HB3.out)); rw [E1.out] at m; (with_reducible refine m.mono ?_); clear m; rintro e w4 ⟨rfl, hbx⟩; have HB4 := Lib.hid (HB3.out.trans (hbx.mono HB3.out.size)); clear hbx)
          go_wp2_with (go_at_call 67; (have m := H67.out g A1 c1 w4 (-1) a2 (HD.out.below HB4.out)); rw [E2.out] at m; (with_reducible refine m.mono ?_); clear m; rintro e w5 ⟨rfl, hbx⟩; have HB5 := Lib.hid (HB4.out.trans (hbx.mono HB4.out.size)); clear hbx)
          go_wp2_with (go_at_call 67; (have m := H67.out g A1 c1 w5 a2 (-1) (HD.out.below HB5.out)); rw [E3.out] at m; (with_reducible refine m.mono ?_); clear m; rintro e w6 ⟨rfl, hbx⟩; have HB6 := Lib.hid (HB5.out.trans (hbx.mono HB5.out.size)); clear hbx)
          go_ret2
          exact ⟨rfl, hb.trans (HB6.out.mono hb.size)⟩
        · rw [if_neg hc2] at hx
          simp at hx
          obtain ⟨rfl, rfl⟩ := hx
          have hc2' : (n3 == n1) = false := by simp [hc2]
          clear hc2
          go_enter Try.func36, Try.ntmps36
          go_wp2_with (go_at_call 56; refine h56.mono ?_; clear h56; rintro e w1 ⟨g, A1, c1, rfl, hD, hb⟩; have HD := Lib.hid hD; clear hD)
          go_wp2_with (go_at_call 42; refine (H42.out g A1 c1 w1).mono ?_; rintro e w2 ⟨rfl, hb2⟩; have HB3 : Hid (Below w1.heap.size w1 w2) := ((Below.refl _ w1).alloc (Nat.le_refl _) _).trans (hb2.mono (by simp)); clear hb2)
          go_wp2_with (go_at_call 67; (have m := H67.out g A1 c1 w2 (-1) (-1) (HD.out.below HB3.out)); rw [E1.out] at m; (with_reducible refine m.mono ?_); clear m; rintro e w4 ⟨rfl, hbx⟩; have HB4 := Lib.hid (HB3.out.trans (hbx.mono HB3.out.size)); clear hbx)
          go_wp2_with (go_at_call 67; (have m := H67.out g A1 c1 w4 (-1) a2 (HD.out.below HB4.out)); rw [E2.out] at m; (with_reducible refine m.mono ?_); clear m; rintro e w5 ⟨rfl, hbx⟩; have HB5 := Lib.hid (HB4.out.trans (hbx.mono HB4.out.size)); clear hbx)
          go_wp2_with (go_at_call 67; (have m := H67.out g A1 c1 w5 a2 (-1) (HD.out.below HB5.out)); rw [E3.out] at m; (with_reducible refine m.mono ?_); clear m; rintro e w6 ⟨rfl, hbx⟩; have HB6 := Lib.hid (HB5.out.trans (hbx.mono HB5.out.size)); clear hbx)
          go_ret2
          exact ⟨rfl, hb.trans (HB6.out.mono hb.size)⟩
  · have hh := H.out
    rw [if_neg h1] at hh
    have h56 := sided_err A0 c0 l0 a1 w hr0 hc0 h1
    injection hh with e1 e2
    have H1 := Lib.hid e1; have H2 := Lib.hid e2
    have hz : (sideErr l0 a1 != 0) = true := by simpa using h1
    have hz' : (sideErr l0 a1 == 0) = false := by simpa using h1
    clear h1 e1 e2
    generalize sideErr l0 a1 = q at *
    go_enter Try.func36, Try.ntmps36
    go_wp2_with (go_at_call 56; refine h56.mono ?_; clear h56; rintro e w1 ⟨rfl, hb⟩)
    go_ret2
    rw [← H1.out, ← H2.out]
    exact ⟨rfl, hb⟩
end Go.Proofs.Ytmlahfidnfdhbaa.Pr
