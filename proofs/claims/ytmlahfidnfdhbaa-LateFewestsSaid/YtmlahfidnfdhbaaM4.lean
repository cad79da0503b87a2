/- Contracts of late.kept and Kept. -/
import Derived.Test.YtmlahfidnfdhbaaRA
import Derived.WideKeyArgs
import Derived.DeepKeys4
import Derived.MapViews
import Derived.Maps.OwnSet
import Derived.Maps.OwnOps
import Derived.Maps.RangeWalk
import Derived.Test.YtmlahfidnfdhbaaM3
import Derived.Deep.RegionHeld3
import Derived.ChangeKeysEq
import Derived.ArgAppend
set_option linter.unusedVariables false
set_option linter.unusedSimpArgs false
namespace Go.Proofs.Ytmlahfidnfdhbaa.Pr
open Go.RowKit Go.Proofs.YtmlahfidnfdhbaaW.PrintWords Go.Proofs.YtmlahfidnfdhbaaW.PrintLast Go.Proofs.YtmlahfidnfdhbaaW.PrintMore
open Go.Maps

theorem laid105 : laidOutB Try.prog = true := by kernel_rfl
theorem row105 : (105 : TypeId) < Try.prog.types.size := of_decide_eq_true (by kernel_rfl)
theorem wide105 : (match Try.prog.underlying 105 with | some (.array _ _) | some (.struct _) => true | _ => false) = true := by rw [Try.underlying105]
theorem at105 : Try.prog.keyTypeAt 2 105 = true := by kernel_rfl
set_option maxRecDepth 100000 in
theorem law105 : Keyed Try.prog 105 := Keyed.of_law (deep_law_laid laid105 (m := 2) (by omega) row105 at105 wide105)
theorem zero3 (w : World) : (zeroValue 3).run Try.prog w = .ok (.int .i64 0) w := by kernel_rfl
theorem keyType105 : Try.prog.keyType 105 = true := by kernel_rfl
theorem cells105 : Try.prog.cellsOf 105 = 1 := by kernel_rfl
theorem cells3 : Try.prog.cellsOf 3 = 1 := by kernel_rfl

/-- What an order's key reads as. -/
noncomputable def kl (i : Nat) : Lit := (keyOf Try.prog 105 (.agg #[.int .i64 (i : Int)])).getD (.bool false)
theorem hkl (i : Nat) (h : i < 20) : keyOf Try.prog 105 (.agg #[.int .i64 (i : Int)]) = some (kl i) := by
  unfold kl
  have : ∃ l, keyOf Try.prog 105 (.agg #[.int .i64 (i : Int)]) = some l := by
    have : i = 0 ∨ i = 1 ∨ i = 2 ∨ i = 3 ∨ i = 4 ∨ i = 5 ∨ i = 6 ∨ i = 7 ∨ i = 8 ∨ i = 9 ∨ i = 10 ∨ i = 11 ∨ i = 12 ∨ i = 13 ∨ i = 14 ∨ i = 15 ∨ i = 16 ∨ i = 17 ∨ i = 18 ∨ i = 19 := by omega
    rcases this with rfl | rfl | rfl | rfl | rfl | rfl | rfl | rfl | rfl | rfl | rfl | rfl | rfl | rfl | rfl | rfl | rfl | rfl | rfl | rfl
    all_goals exact Option.isSome_iff_exists.1 (by kernel_rfl)
  obtain ⟨l, hl⟩ := this
  rw [hl]; rfl
theorem kl_inj {i j : Nat} (hi : i < 20) (hj : j < 20) (h : kl i = kl j) : i = j := by
  have h1 := hkl i hi
  have h2 := hkl j hj
  rw [← h] at h2
  have h3 := law105.inj h1 h2
  clear h1 h2 h
  simp only [Value.agg.injEq, Array.mk.injEq, List.cons.injEq, Value.int.injEq, true_and, and_true] at h3
  omega
end Go.Proofs.Ytmlahfidnfdhbaa.Pr
namespace Go.Proofs.Ytmlahfidnfdhbaa.Pr
open Go.RowKit Go.Proofs.YtmlahfidnfdhbaaW.PrintWords Go.Proofs.YtmlahfidnfdhbaaW.PrintLast Go.Proofs.YtmlahfidnfdhbaaW.PrintMore
open Go.Maps

def orI (x y : Int) : Int := if x = 0 then y else x
theorem cmpInt_f (a b : Int) : cmp_Compare_int.f a b = some (cmpI a b) := by
  simp [cmp_Compare_int.f, cmp_isNaN_int.f, cmpI]
  split <;> simp_all
  split <;> simp_all
theorem or_f (x y : Int) : cmp_Or_int.f 4 [x, y] = some (orI x y) := by
  by_cases hx : x = 0
  · by_cases hy : y = 0 <;> simp [cmp_Or_int.f, cmp_Or_int.l0, wrap64, hx, hy, orI, rd, rdOf]
  · simp [cmp_Or_int.f, cmp_Or_int.l0, wrap64, hx, orI, rd, rdOf]
theorem below_d0 {n : Nat} {A B C : World} (h : Below n A B) (hd : Drawn0 B C) : Below n A C := by
  obtain ⟨m, rfl⟩ := hd
  exact grown_drawnB h m
theorem ownsMap_below {P : Program} {k : TypeId} {R : Value → Option (DataW Unit × List MemPlace)} {b n : Nat} {D : DataW Unit} {w w' : World} (h : w.ownsMap P k R b n D) (hb : Below w.heap.size w w') : w'.ownsMap P k R b n D :=
  h.kept (row := none) (grown_of_below hb none) (by simp)

set_option maxRecDepth 100000 in
set_option maxHeartbeats 4000000 in
theorem better78 (B1 B3 g bm n : Nat) (A A1 : Option Addr) (c c1 : Nat) (l : List S58) (ws : List Int) (D : DataW Unit) (a b : Nat) (pa pb : Int) (w : World)
    (h1 : w.cell? ⟨B1, 0, none⟩ = some (.pointer (some ⟨g, 0, none⟩))) (h3 : w.cell? ⟨B3, 0, none⟩ = some (.map (some bm))) (hD : IsDesk w g A c l A1 c1 ws) (hown : w.ownsMap Try.prog 105 (plainElem Try.prog 3) bm n D)
    (ha : a < l.length) (hb : b < l.length) (hl : l.length < 20) (hpa : ∀ z, D.atKey (kl a) z = .lit (.int .i64 pa)) (hpb : ∀ z, D.atKey (kl b) z = .lit (.int .i64 pb)) :
    Calls Try.prog 78 #[.agg #[.int .i64 (a : Int)], .agg #[.int .i64 (b : Int)], .pointer (some ⟨B1, 0, none⟩), .pointer (some ⟨B3, 0, none⟩)] w fun e w' =>
      e = .returned (.bool (decide (0 < orI (cmpI (rd ws a) (rd ws b)) (cmpI pa pb)))) ∧ Below w.heap.size w w' := by
  have hu105 := Try.underlying105
  have hu73 := Try.underlying73
  obtain ⟨wB, hwB⟩ : ∃ wB : World, wB = (w.alloc (.cells #[.int .i64 (a : Int)] 105)).alloc (.cells #[.int .i64 (b : Int)] 105) := ⟨_, rfl⟩
  have hBB : Below w.heap.size w wB := by rw [hwB]; exact ((Below.refl _ w).alloc (Nat.le_refl _) _).alloc (by simp) _
  have k1 := pw_cell_below hBB h1
  have k3 := pw_cell_below hBB h3
  have ka : wB.cell? ⟨w.heap.size, 0, none⟩ = some (.int .i64 (a : Int)) := by rw [hwB]; exact cell_al _ (cell_new_l w _ _).1
  have kb : wB.cell? ⟨w.heap.size + 1, 0, none⟩ = some (.int .i64 (b : Int)) := by rw [hwB]; have := (cell_new_l (w.alloc (.cells #[.int .i64 (a : Int)] 105)) (.int .i64 (b : Int)) 105).1; rw [World.size_alloc] at this; exact this
  have dB := hD.below hBB
  obtain ⟨ad1, rfl, qa⟩ := C_cell dB.hk a ha
  obtain ⟨ad1', e', qb⟩ := C_cell dB.hk b hb
  cases e'
  have kk := dB.k
  have oB := ownsMap_below hown hBB
  have lka : ∀ w', Below wB.heap.size wB w' → (Instr.lookup 103 (.map (some bm)) (.agg #[.int .i64 (a : Int)]) false).run Try.prog w' = .ok (.int .i64 pa) w' := by
    intro w' hw
    obtain ⟨x, hrun, hat, _⟩ := (ownsMap_below oB hw).lookup_int law105 Try.underlying103 Try.underlying3 (zero3 _) (hkl a (by omega))
    rw [hpa] at hat
    injection hat with hat
    injection hat with _ hat
    rw [hat]; exact hrun
  have lkb : ∀ w', Below wB.heap.size wB w' → (Instr.lookup 103 (.map (some bm)) (.agg #[.int .i64 (b : Int)]) false).run Try.prog w' = .ok (.int .i64 pb) w' := by
    intro w' hw
    obtain ⟨x, hrun, hat, _⟩ := (ownsMap_below oB hw).lookup_int law105 Try.underlying103 Try.underlying3 (zero3 _) (hkl b (by omega))
    rw [hpb] at hat
    injection hat with hat
    injection hat with _ hat
    rw [hat]; exact hrun
  have hS : ∀ w', Below wB.heap.size wB w' → Below wB.heap.size wB w' ∧ w'.cell? ⟨B1, 0, none⟩ = some (.pointer (some ⟨g, 0, none⟩)) ∧ w'.cell? ⟨B3, 0, none⟩ = some (.map (some bm)) ∧ w'.cell? ⟨g, 1, none⟩ = some (.slice (some ad1) l.length c1) ∧
      w'.cell? ⟨w.heap.size, 0, none⟩ = some (.int .i64 (a : Int)) ∧ w'.cell? ⟨w.heap.size + 1, 0, none⟩ = some (.int .i64 (b : Int)) ∧ w'.cell? (ad1.add a) = some (.int .i64 (rd ws a)) ∧ w'.cell? (ad1.add b) = some (.int .i64 (rd ws b)) ∧
      (Instr.lookup 103 (.map (some bm)) (.agg #[.int .i64 (a : Int)]) false).run Try.prog w' = .ok (.int .i64 pa) w' ∧ (Instr.lookup 103 (.map (some bm)) (.agg #[.int .i64 (b : Int)]) false).run Try.prog w' = .ok (.int .i64 pb) w' := fun w' h =>
    ⟨h, pw_cell_below h k1, pw_cell_below h k3, pw_cell_below h kk, pw_cell_below h ka, pw_cell_below h kb, pw_cell_below h qa, pw_cell_below h qb, lka w' h, lkb w' h⟩
  have HS := Lib.hid hS; clear hS lka lkb
  have hbase : Below wB.heap.size wB wB := Below.refl _ _
  have hbase2 : Below wB.heap.size wB wB.drew := hbase.drew
  have HBB := Lib.hid hBB
  clear hBB dB oB hown hD hpa hpb h1 h3
  go_enter Try.func78, Try.ntmps78
  go_wp2
  rw [← hwB]
  clear hwB
  go_region_held3 (fun w' => Below wB.heap.size wB w' ∧ w'.cell? ⟨B1, 0, none⟩ = some (.pointer (some ⟨g, 0, none⟩)) ∧ w'.cell? ⟨B3, 0, none⟩ = some (.map (some bm)) ∧ w'.cell? ⟨g, 1, none⟩ = some (.slice (some ad1) l.length c1) ∧
      w'.cell? ⟨w.heap.size, 0, none⟩ = some (.int .i64 (a : Int)) ∧ w'.cell? ⟨w.heap.size + 1, 0, none⟩ = some (.int .i64 (b : Int)) ∧ w'.cell? (ad1.add a) = some (.int .i64 (rd ws a)) ∧ w'.cell? (ad1.add b) = some (.int .i64 (rd ws b)) ∧
      (Instr.lookup 103 (.map (some bm)) (.agg #[.int .i64 (a : Int)]) false).run Try.prog w' = .ok (.int .i64 pa) w' ∧ (Instr.lookup 103 (.map (some bm)) (.agg #[.int .i64 (b : Int)]) false).run Try.prog w' = .ok (.int .i64 pb) w')
    ((refine HS.out _ ?_; first | assumption | exact Below.drew (by assumption) | exact Below.alloc (by assumption) (Below.size (by assumption)) _))
    (first
      | (go_at_call 75; refine (cmp_Compare_int64.calls _ _ _ _ (cmp64_f _ _)).mono ?_; rintro e w' ⟨rfl, hd⟩; have hbn : Below wB.heap.size wB w' := below_d0 (by assumption) hd)
      | (go_at_call 80; refine (cmp_Compare_int.calls _ _ _ _ (cmpInt_f _ _)).mono ?_; rintro e w' ⟨rfl, hd⟩; have hbn : Below wB.heap.size wB w' := below_d0 (by assumption) hd)
      | (go_at_call 79; refine (cmp_Or_int.calls 4 _ 2 [cmpI (rd ws a) (rd ws b), cmpI pa pb] _ _ (C_lit _ 3 _ [cmpI (rd ws a) (rd ws b), cmpI pa pb] #[.int .i64 (cmpI (rd ws a) (rd ws b)), .int .i64 (cmpI pa pb)] rfl rfl (by simp)) (by simp) (or_f _ _)).mono ?_; rintro e w' ⟨rfl, hd⟩; have hbn : Below wB.heap.size wB w' := below_d0 (Below.alloc (by assumption) (Below.size (by assumption)) _) hd))
  all_goals
    go_wp2
    go_ret
    exact ⟨rfl, HBB.out.trans (Below.mono (by assumption) HBB.out.size)⟩
end Go.Proofs.Ytmlahfidnfdhbaa.Pr
namespace Go.Proofs.Ytmlahfidnfdhbaa.Pr
open Go.RowKit Go.Proofs.YtmlahfidnfdhbaaW.PrintWords Go.Proofs.YtmlahfidnfdhbaaW.PrintLast Go.Proofs.YtmlahfidnfdhbaaW.PrintMore

def bestTo (bt : Int → Int → Bool) (l : List Int) : Nat → Int
  | 0 => rd l 0
  | k + 1 => if bt (rd l (k + 1)) (bestTo bt l k) = true then rd l (k + 1) else bestTo bt l k
theorem bestTo_mem (bt : Int → Int → Bool) (l : List Int) : ∀ k, k < l.length → bestTo bt l k ∈ l
  | 0, h => by unfold bestTo; have := rd_get l 0 h; rw [show ((0 : Nat) : Int) = 0 from rfl] at this; rw [this]; exact List.getElem_mem h
  | k + 1, h => by
    unfold bestTo
    split
    · have := rd_get l (k + 1) h
      rw [show (((k + 1 : Nat)) : Int) = (k : Int) + 1 from rfl] at this
      rw [this]; exact List.getElem_mem h
    · exact bestTo_mem bt l k (by omega)

set_option maxRecDepth 100000 in
set_option maxHeartbeats 1000000 in
theorem best77 (A : Option Addr) (c : Nat) (l : List Int) (bt : Int → Int → Bool) (B1 B3 : Nat) (w : World) (hr : Kd.C (Kd.int .i64) w A l.length l) (hc : l.length ≤ c) (h0 : 0 < l.length)
    (hf : ∀ x y W, x ∈ l → y ∈ l → Below w.heap.size w W → Calls Try.prog 78 #[.agg #[.int .i64 x], .agg #[.int .i64 y], .pointer (some ⟨B1, 0, none⟩), .pointer (some ⟨B3, 0, none⟩)] W fun e w' => e = .returned (.bool (bt x y)) ∧ Below W.heap.size W w') :
    Calls Try.prog 77 #[.slice A l.length c, .func (.func 78) #[] #[.pointer (some ⟨B1, 0, none⟩), .pointer (some ⟨B3, 0, none⟩)]] w fun e w' => e = .returned (.agg #[.int .i64 (bestTo bt l (l.length - 1))]) ∧ Below w.heap.size w w' := by
  have hu105 := Try.underlying105
  have hlen : l.length ≤ 9223372036854775807 := hr.2.1
  have HF := Lib.hid hf; clear hf
  obtain ⟨b, o, rfl, hbw, hcs⟩ := C_at hr h0
  have HCS := Lib.hid hcs
  have hc00 : ∀ o', (w.alloc o').cell? ⟨b, o, none⟩ = some (.int .i64 (rd l 0)) := fun o' => cell_al o' (hcs 0 h0)
  clear hcs
  have H0 := Lib.hid h0
  have hR := Lib.hid hr; clear hr
  by_cases hcap : c = 1
  · have hl1 : l.length = 1 := by omega
    rw [hl1]
    subst hcap
    have HL := Lib.hid hl1; clear hl1 hc hlen h0
    go_enter Try.func77, Try.ntmps77
    go_wp2
    refine wp_loop_rounds 1 ?_
    rw [rounds_succ]
    go_wp2
    refine bodyPost_ret (v := .agg #[.int .i64 (rd l 0)]) (by simp [results, Try.f77, go_sem]) rfl ?_
    exact ⟨rfl, ((Below.refl _ w).alloc (Nat.le_refl _) _).alloc (by simp) _⟩
  · have hc2 : 1 < c := by omega
    go_enter Try.func77, Try.ntmps77
    go_wp2
    go_loopw [14] (fun i wr => ∃ (k : Nat), k ≤ l.length - 1 ∧ i = .int .i64 k ∧ wr.cell? ⟨w.heap.size, 0, none⟩ = some (.int .i64 0) ∧ wr.frozen? ⟨w.heap.size, 0, none⟩ = false ∧ wr.cell? ⟨w.heap.size + 1, 0, none⟩ = some (.int .i64 (bestTo bt l k)) ∧ wr.frozen? ⟨w.heap.size + 1, 0, none⟩ = false ∧ Hid (Below w.heap.size w wr)) (fun i _ => l.length - 1 - (intOf i).toNat)
    case atStart =>
      refine ⟨0, Nat.zero_le _, rfl, cell_al _ (cell_new_l w _ _).1, frozen_alloc_l _ (cell_new_l w _ _).1 (cell_new_l w _ _).2, ?_, ?_, ((Below.refl _ w).alloc (Nat.le_refl _) _).alloc (by simp) _⟩
      · have := (cell_new_l (w.alloc (.cells #[.int .i64 0] 105)) (.int .i64 (rd l 0)) 105).1
        rw [World.size_alloc] at this; exact this
      · have := (cell_new_l (w.alloc (.cells #[.int .i64 0] 105)) (.int .i64 (rd l 0)) 105).2
        rw [World.size_alloc] at this; exact this
    case round =>
      obtain ⟨k, hk, rfl, e4, f4, e5, f5, HB⟩ := hrel
      by_cases hlt : k < l.length - 1
      · have q2 : wr.cell? ⟨b, o + 1 + k, none⟩ = some (.int .i64 (rd l ((k + 1 : Nat) : Int))) := by
          have := pw_cell_below HB.out (HCS.out (k + 1) (by omega))
          rw [show o + (k + 1) = o + 1 + k by omega] at this
          exact this
        have HM : Hid (bestTo bt l (k + 1) = if bt (rd l ((k + 1 : Nat) : Int)) (bestTo bt l k) = true then rd l ((k + 1 : Nat) : Int) else bestTo bt l k) := rfl
        have hm1 : rd l ((k + 1 : Nat) : Int) ∈ l := by rw [rd_get l (k + 1) (by omega)]; exact List.getElem_mem (by omega)
        have hm2 := bestTo_mem bt l k (by omega)
        have e5a : ∀ o, (wr.alloc o).cell? ⟨w.heap.size + 1, 0, none⟩ = some (.int .i64 (bestTo bt l k)) := fun o => cell_al o e5
        have f5a : ∀ o, (wr.alloc o).frozen? ⟨w.heap.size + 1, 0, none⟩ = false := fun o => frozen_alloc_l o e5 f5
        have e4a : ∀ o, (wr.alloc o).cell? ⟨w.heap.size, 0, none⟩ = some (.int .i64 0) := fun o => cell_al o e4
        have f4a : ∀ o, (wr.alloc o).frozen? ⟨w.heap.size, 0, none⟩ = false := fun o => frozen_alloc_l o e4 f4
        have h78 := fun o => HF.out (rd l ((k + 1 : Nat) : Int)) (bestTo bt l k) (wr.alloc o) hm1 hm2 (HB.out.alloc HB.out.size o)
        clear hm1 hm2
        generalize hy : rd l ((k + 1 : Nat) : Int) = y at *
        generalize hz : bestTo bt l k = z at *
        have HY := Lib.hid hy; have HZ := Lib.hid hz; have H78 := Lib.hid h78; clear hy hz h78
        cases hbt : bt y z
        all_goals
          have HM2 := HM.out
          rw [hbt] at HM2
          have HM3 := Lib.hid HM2
          rw [hbt] at H78
          clear HM2 HM
          go_wp2_with (go_at_call 78; refine (H78.out _).mono ?_; rintro e w1 ⟨rfl, hb1⟩; have HB1 := Lib.hid ((HB.out.alloc HB.out.size _).trans (hb1.mono (by have := HB.out.size; simp; omega))); have d7 := pw_cell_below hb1 (cell_new_l wr (.int .i64 y) 105).1; have d4 := pw_cell_below hb1 (e4a _); have d5 := pw_cell_below hb1 (e5a _); have g4 := (hb1.frozen (World.block_lt_of_cell? _ _ (e4a _))).trans (f4a _); have g5 := (hb1.frozen (World.block_lt_of_cell? _ _ (e5a _))).trans (f5a _))
          refine ⟨⟨k + 1, by omega, by go_num, ?_, ?_, ?_, ?_, ?_⟩, by simp [intOf]; omega⟩
          · first | exact d4 | (simp [go_sem, d4]; done)
          · first | exact g4 | (simp [go_sem, g4]; done)
          · rw [HM3.out]; first | exact d5 | (simp [go_sem, d5]; done)
          · first | exact g5 | (simp [go_sem, g5]; done)
          · first | exact HB1.out | exact HB1.out.setCell (p := ⟨w.heap.size + 1, 0, none⟩) (by simp) _
      · obtain rfl : k = l.length - 1 := by omega
        go_wp2
        refine bodyPost_ret (v := .agg #[.int .i64 (bestTo bt l (l.length - 1))]) (by simp [results, Try.f77, go_sem, e4]) rfl ?_
        exact ⟨rfl, HB.out.setCell (p := ⟨w.heap.size, 0, none⟩) (Nat.le_refl _) _⟩
end Go.Proofs.Ytmlahfidnfdhbaa.Pr
namespace Go.Proofs.Ytmlahfidnfdhbaa.Pr
open Go.RowKit Go.Proofs.YtmlahfidnfdhbaaW.PrintWords Go.Proofs.YtmlahfidnfdhbaaW.PrintLast Go.Proofs.YtmlahfidnfdhbaaW.PrintMore
open Go.Maps
set_option maxRecDepth 100000

noncomputable def klz (x : Int) : Lit := kl x.toNat
theorem hklz {x : Int} (h0 : 0 ≤ x) (h1 : x < 20) : keyOf Try.prog 105 (.agg #[.int .i64 x]) = some (klz x) := by
  obtain ⟨n, rfl⟩ := Int.eq_ofNat_of_zero_le h0
  exact hkl n (by omega)
theorem klz_inj {x y : Int} (h0 : 0 ≤ x) (h1 : x < 20) (h2 : 0 ≤ y) (h3 : y < 20) (h : klz x = klz y) : x = y := by
  have := kl_inj (i := x.toNat) (j := y.toNat) (by omega) (by omega) h
  omega
theorem klz_key {x : Int} (h0 : 0 ≤ x) (h1 : x < 20) : WideAt.IsKeyLit (klz x) := law105.key (hklz h0 h1)

theorem field105 : Try.prog.underlying 3 = some (.int .i64) := by kernel_rfl
theorem keyOf_inv105 {v : Value} {q : Lit} (h : keyOf Try.prog 105 v = some q) : ∃ x, v = .agg #[.int .i64 x] := by
  have h' := h
  unfold keyOf at h
  rw [Try.underlying105] at h
  simp only [keyType105, Bool.true_and] at h
  split at h
  · rename_i hf
    cases v with
    | agg cs =>
      simp only [Value.formed, Try.underlying105, cells105, beq_iff_eq] at hf
      obtain ⟨l⟩ := cs
      simp only [List.size_toArray] at hf
      cases l with
      | nil => simp at hf
      | cons c r =>
        cases r with
        | cons _ _ => simp at hf
        | nil =>
          obtain ⟨ls, hls, _⟩ := Option.map_eq_some_iff.1 h
          simp [Value.cells] at hls
          have hx : ∀ d, Try.prog.keyLits (d + 1 + 1) 105 [c] = some ls → ∃ x, c = .int .i64 x := by
            intro d hd
            unfold Program.keyLits at hd
            rw [Try.underlying105] at hd
            simp [cells105, cells3] at hd
            cases hk : Try.prog.keyLits (d + 1) 3 [c] with
            | none => rw [hk] at hd; simp at hd
            | some a =>
              obtain ⟨n, e, _⟩ := keyLits_int' field105 hk
              simp at e
              exact ⟨n, e⟩
          obtain ⟨x, rfl⟩ := hx 134 hls
          exact ⟨x, rfl⟩
    | _ => simp [Value.formed, Try.underlying105] at hf
  · cases h

/-- What a map of kept orders reads as. -/
structure HasKs (D : DataW Unit) (ks : List Int) (pos : Int → Int) : Prop where
  has : ∀ q, Maps.has D q = true ↔ ∃ i ∈ ks, q = klz i
  at_ : ∀ i ∈ ks, ∀ z, D.atKey (klz i) z = .lit (.int .i64 (pos i))
  range : ∀ i ∈ ks, 0 ≤ i ∧ i < 20
theorem HasKs.nil (pos : Int → Int) : HasKs (.map []) [] pos := ⟨by simp [Maps.has], by simp, by simp⟩
theorem HasKs.put {D : DataW Unit} {ks : List Int} {pos : Int → Int} (h : HasKs D ks pos) (hD : IsMap D) {x : Int} (h0 : 0 ≤ x) (h1 : x < 20) : HasKs (D.put (klz x) (.lit (.int .i64 (pos x)))) (ks ++ [x]) pos := by
  refine ⟨fun q => ?_, fun i hi z => ?_, ?_⟩
  · by_cases hq : q = klz x
    · subst hq
      simp only [has_put_same hD (klz_key h0 h1), true_iff]
      exact ⟨x, by simp, rfl⟩
    · rw [has_put_other hq, h.has]
      constructor
      · rintro ⟨i, hi, e⟩; exact ⟨i, by simp [hi], e⟩
      · rintro ⟨i, hi, e⟩
        rcases List.mem_append.1 hi with hi | hi
        · exact ⟨i, hi, e⟩
        · simp at hi; subst hi; exact absurd e hq
  · by_cases hq : klz i = klz x
    · rw [hq, atKey_put_same hD (klz_key h0 h1)]
      have hr : 0 ≤ i ∧ i < 20 := by
        rcases List.mem_append.1 hi with hi | hi
        · exact h.range i hi
        · simp at hi; subst hi; exact ⟨h0, h1⟩
      rw [klz_inj hr.1 hr.2 h0 h1 hq]
    · rw [atKey_put_other hq]
      rcases List.mem_append.1 hi with hi | hi
      · exact h.at_ i hi z
      · simp at hi; subst hi; exact absurd rfl hq
  · intro i hi
    rcases List.mem_append.1 hi with hi | hi
    · exact h.range i hi
    · simp at hi; subst hi; exact ⟨h0, h1⟩
theorem HasKs.del {D : DataW Unit} {ks : List Int} {pos : Int → Int} (h : HasKs D ks pos) (hn : ks.Nodup) {x : Int} (hx : x ∈ ks) : HasKs (D.del (klz x)) (ks.erase x) pos := by
  have hxr := h.range x hx
  refine ⟨fun q => ?_, fun i hi z => ?_, fun i hi => h.range i (List.mem_of_mem_erase hi)⟩
  · by_cases hq : q = klz x
    · subst hq
      rw [has_del_same]
      simp only [Bool.false_eq_true, false_iff]
      rintro ⟨i, hi, e⟩
      have h2 := h.range i (List.mem_of_mem_erase hi)
      have := klz_inj hxr.1 hxr.2 h2.1 h2.2 e
      subst this
      exact (List.Nodup.mem_erase_iff hn).1 hi |>.1 rfl
    · rw [has_del_other hq, h.has]
      constructor
      · rintro ⟨i, hi, e⟩
        exact ⟨i, (List.Nodup.mem_erase_iff hn).2 ⟨fun e' => hq (by rw [e, e']), hi⟩, e⟩
      · rintro ⟨i, hi, e⟩; exact ⟨i, List.mem_of_mem_erase hi, e⟩
  · have hi2 := (List.Nodup.mem_erase_iff hn).1 hi
    rw [atKey_del_other (fun e => ?_)]
    · exact h.at_ i hi2.2 z
    · have h2 := h.range i hi2.2
      exact hi2.1 (klz_inj h2.1 h2.2 hxr.1 hxr.2 e)
end Go.Proofs.Ytmlahfidnfdhbaa.Pr
namespace Go.Proofs.Ytmlahfidnfdhbaa.Pr
open Go.RowKit Go.Proofs.YtmlahfidnfdhbaaW.PrintWords Go.Proofs.YtmlahfidnfdhbaaW.PrintLast Go.Proofs.YtmlahfidnfdhbaaW.PrintMore

theorem swap_perm (xs : List Int) (j : Nat) (hj : j + 1 < xs.length) : (swapAt xs j).Perm xs := by
  unfold swapAt
  have e1 := rd_get xs j (by omega)
  have e2 := rd_get xs (j + 1) hj
  rw [show (((j + 1 : Nat)) : Int) = (j : Int) + 1 from rfl] at e2
  rw [e1, e2]
  induction xs generalizing j with
  | nil => simp at hj
  | cons a r ih =>
    cases j with
    | zero =>
      cases r with
      | nil => simp at hj
      | cons b r => simp; exact List.Perm.swap a b r
    | succ j =>
      simp only [List.set_cons_succ, List.getElem_cons_succ]
      refine List.Perm.cons a (ih j (by simpa using hj) ?_ ?_)
      · exact rd_get r j (by simp at hj; omega)
      · exact rd_get r (j + 1) (by simpa using hj)
theorem insDown_perm (cmp : Int → Int → Int) : ∀ (j : Nat) (xs : List Int), j < xs.length ∨ j = 0 → (insDown cmp j xs).Perm xs
  | 0, xs, _ => by unfold insDown; exact List.Perm.refl _
  | j + 1, xs, h => by
    have h1 : j + 1 < xs.length := by omega
    unfold insDown
    split
    · exact (insDown_perm cmp j _ (.inl (by rw [swapAt_len]; omega))).trans (swap_perm xs j h1)
    · exact List.Perm.refl _
theorem insTo_perm (cmp : Int → Int → Int) : ∀ (k : Nat) (xs : List Int), k ≤ xs.length → (insTo cmp k xs).Perm xs
  | 0, xs, _ => by unfold insTo; exact List.Perm.refl _
  | k + 1, xs, h => by
    unfold insTo
    exact (insDown_perm cmp k _ (.inl (by rw [insTo_len]; omega))).trans (insTo_perm cmp k xs (by omega))
theorem byDueL_perm (l : List S58) : (byDueL l).Perm (iota l.length) := insTo_perm _ _ _ (by rw [iota_len]; exact Nat.le_refl _)
theorem iota_nodup (n : Nat) : (iota n).Nodup := by
  unfold iota
  refine List.pairwise_map.2 (List.Pairwise.imp ?_ List.nodup_range)
  intro a b h e; exact h (Int.ofNat_inj.1 e)
theorem byDueL_nodup (l : List S58) : (byDueL l).Nodup := (byDueL_perm l).symm.nodup (iota_nodup _)

/-! the last of all by a strict order -/
theorem bestTo_max (bt : Int → Int → Bool) (hi : ∀ x, bt x x = false) (ht : ∀ x y z, bt x y = true → bt y z = true → bt x z = true) (l : List Int) : ∀ k, k < l.length → ∀ j, j ≤ k → bt (rd l (j : Nat)) (bestTo bt l k) = false
  | 0, h, j, hj => by obtain rfl : j = 0 := by omega
                      exact hi _
  | k + 1, h, j, hj => by
    unfold bestTo
    by_cases hb : bt (rd l ((k : Int) + 1)) (bestTo bt l k) = true
    · rw [if_pos hb]
      by_cases hj2 : j = k + 1
      · subst hj2; exact hi _
      · have := bestTo_max bt hi ht l k (by omega) j (by omega)
        cases hc : bt (rd l (j : Nat)) (rd l ((k : Int) + 1))
        · rfl
        · rw [ht _ _ _ hc hb] at this; cases this
    · rw [if_neg hb]
      by_cases hj2 : j = k + 1
      · subst hj2; exact Bool.eq_false_iff.2 hb
      · exact bestTo_max bt hi ht l k (by omega) j (by omega)
def worstOf (bt : Int → Int → Bool) (l : List Int) : Int := bestTo bt l (l.length - 1)
theorem worstOf_mem (bt : Int → Int → Bool) (l : List Int) (h : 0 < l.length) : worstOf bt l ∈ l := bestTo_mem bt l _ (by omega)
theorem worstOf_max (bt : Int → Int → Bool) (hi : ∀ x, bt x x = false) (ht : ∀ x y z, bt x y = true → bt y z = true → bt x z = true) (l : List Int) (x : Int) (hx : x ∈ l) : bt x (worstOf bt l) = false := by
  obtain ⟨j, hj, rfl⟩ := List.getElem_of_mem hx
  have := bestTo_max bt hi ht l (l.length - 1) (by omega) j (by omega)
  rw [rd_get l j hj] at this
  exact this
theorem worstOf_perm (bt : Int → Int → Bool) (hi : ∀ x, bt x x = false) (ht : ∀ x y z, bt x y = true → bt y z = true → bt x z = true) {l l' : List Int} (hp : l'.Perm l) (h : 0 < l.length)
    (htot : ∀ x y, x ∈ l → y ∈ l → x ≠ y → bt x y = true ∨ bt y x = true) : worstOf bt l' = worstOf bt l := by
  have h' : 0 < l'.length := by rw [hp.length_eq]; exact h
  have m := worstOf_mem bt l h
  have m' := hp.mem_iff.1 (worstOf_mem bt l' h')
  by_cases e : worstOf bt l' = worstOf bt l
  · exact e
  · rcases htot _ _ m' m e with hc | hc
    · rw [worstOf_max bt hi ht l _ m'] at hc; cases hc
    · rw [worstOf_max bt hi ht l' _ (hp.mem_iff.2 m)] at hc; cases hc

def posOf (L : List Int) (x : Int) : Int := (L.idxOf x : Int)
def btOf (ws L : List Int) (x y : Int) : Bool := decide (0 < orI (cmpI (rd ws x) (rd ws y)) (cmpI (posOf L x) (posOf L y)))
theorem btOf_iff (ws L : List Int) (x y : Int) : btOf ws L x y = true ↔ rd ws y < rd ws x ∨ (rd ws x = rd ws y ∧ posOf L y < posOf L x) := by
  unfold btOf orI cmpI
  rw [decide_eq_true_iff]
  split <;> split <;> (try split) <;> (try split) <;> omega
theorem btOf_irr (ws L : List Int) (x : Int) : btOf ws L x x = false := by
  rw [Bool.eq_false_iff]; intro h; rw [btOf_iff] at h; omega
theorem btOf_trans (ws L : List Int) (x y z : Int) (h1 : btOf ws L x y = true) (h2 : btOf ws L y z = true) : btOf ws L x z = true := by
  rw [btOf_iff] at *; omega
theorem posOf_inj {L : List Int} {x y : Int} (hx : x ∈ L) (h : posOf L x = posOf L y) : x = y := by
  unfold posOf at h
  have h' : L.idxOf x = L.idxOf y := by omega
  have h1 : L.idxOf x < L.length := List.idxOf_lt_length_iff.2 hx
  have h2 : L.idxOf y < L.length := by rw [← h']; exact h1
  have e1 : L[L.idxOf x] = x := List.getElem_idxOf h1
  have e2 : L[L.idxOf y] = y := List.getElem_idxOf h2
  rw [← e1, ← e2]
  simp only [h']
theorem btOf_total (ws L : List Int) (x y : Int) (hx : x ∈ L) (h : x ≠ y) : btOf ws L x y = true ∨ btOf ws L y x = true := by
  rw [btOf_iff, btOf_iff]
  have : posOf L x ≠ posOf L y := fun e => h (posOf_inj hx e)
  omega

def keptStep (l : List S58) (ws : List Int) (s : List Int × Int) (i : Int) : List Int × Int :=
  if wrap64 (s.2 + rd ws i) ≤ (rd_T58 l i).f1 then (s.1 ++ [i], wrap64 (s.2 + rd ws i))
  else ((s.1 ++ [i]).erase (worstOf (btOf ws (byDueL l)) (s.1 ++ [i])), wrap64 (wrap64 (s.2 + rd ws i) - rd ws (worstOf (btOf ws (byDueL l)) (s.1 ++ [i]))))
def keptAt (l : List S58) (ws : List Int) (k : Nat) : List Int × Int := ((byDueL l).take k).foldl (keptStep l ws) ([], 0)
theorem keptAt_succ (l : List S58) (ws : List Int) (k : Nat) (h : k < (byDueL l).length) : keptAt l ws (k + 1) = keptStep l ws (keptAt l ws k) (rd (byDueL l) k) := by
  unfold keptAt
  rw [rd_get _ k h, List.take_succ_eq_append_getElem h, List.foldl_append]; rfl
def keptL (l : List S58) (ws : List Int) : List Int := (keptAt l ws (byDueL l).length).1
theorem keptStep_sub (l : List S58) (ws : List Int) (s : List Int × Int) (i : Int) : (keptStep l ws s i).1.Sublist (s.1 ++ [i]) := by
  unfold keptStep
  split
  · exact List.Sublist.refl _
  · exact List.erase_sublist
theorem keptAt_sub (l : List S58) (ws : List Int) : ∀ k, k ≤ (byDueL l).length → (keptAt l ws k).1.Sublist ((byDueL l).take k)
  | 0, _ => by simp [keptAt]
  | k + 1, h => by
    rw [keptAt_succ l ws k h, List.take_succ_eq_append_getElem h, rd_get _ k h]
    exact (keptStep_sub l ws _ _).trans ((keptAt_sub l ws k (by omega)).append (List.Sublist.refl _))
theorem posOf_at (l : List S58) (k : Nat) (h : k < (byDueL l).length) : posOf (byDueL l) (rd (byDueL l) k) = k := by
  rw [rd_get _ k h]
  unfold posOf
  rw [(byDueL_nodup l).idxOf_getElem k h]
end Go.Proofs.Ytmlahfidnfdhbaa.Pr
namespace Go.Proofs.Ytmlahfidnfdhbaa.Pr
open Go.RowKit Go.Proofs.YtmlahfidnfdhbaaW.PrintWords Go.Proofs.YtmlahfidnfdhbaaW.PrintLast Go.Proofs.YtmlahfidnfdhbaaW.PrintMore
set_option maxRecDepth 100000
theorem info3e : ∃ i, Try.prog.info? 3 = some i := Option.isSome_iff_exists.1 (by kernel_rfl)
theorem cells3a : Try.prog.cellsOf 3 = 1 := by kernel_rfl
theorem plain3 : Try.prog.plainKey 3 = true := by kernel_rfl
theorem part3 (xs : Array Value) (j : Nat) (v : Value) (h : xs[j]? = some v) (w : World) : (part 3 xs j).run Try.prog w = .ok v w := run_part_plain w plain3 h
theorem eqItems_ex (d : Nat) (xs ys : Array Value) (w : World) : ∀ (is : List Nat), (∀ j ∈ is, ∃ a b : Int, xs[j]? = some (.int .i64 a) ∧ ys[j]? = some (.int .i64 b)) →
    ∃ r, (Op.eqItems (d + 1) 3 1 xs ys is).run Try.prog w = .ok r w ∧ (r = true → ∀ j ∈ is, xs[j]? = ys[j]?)
  | [], _ => ⟨true, by simp [Op.eqItems], by simp⟩
  | j :: is, h => by
    obtain ⟨a, b, ha, hb⟩ := h j (by simp)
    obtain ⟨r, hr, hrr⟩ := eqItems_ex d xs ys w is (fun i hi => h i (by simp [hi]))
    have e1 := part3 xs j _ ha w
    have e2 := part3 ys j _ hb w
    have e3 := run_equalIn_int (P := Try.prog) w d 3 .i64 .i64 a b Try.underlying3
    by_cases hab : a = b
    · subst hab
      refine ⟨r, ?_, ?_⟩
      · simp [Op.eqItems, e1, e2, e3, hr]
      · intro hr1 i hi
        rcases List.mem_cons.1 hi with rfl | hi
        · rw [ha, hb]
        · exact hrr hr1 i hi
    · refine ⟨false, ?_, by simp⟩
      have hne : (a == b) = false := by simp [hab]
      simp [Op.eqItems, e1, e2, e3, hne]

def markAt (ks : List Int) (j : Nat) : Int := if (j : Int) ∈ ks then 1 else 0
def marksOf (ks : List Int) : Array Value := #[.int .i64 (markAt ks 0), .int .i64 (markAt ks 1), .int .i64 (markAt ks 2), .int .i64 (markAt ks 3), .int .i64 (markAt ks 4), .int .i64 (markAt ks 5), .int .i64 (markAt ks 6), .int .i64 (markAt ks 7), .int .i64 (markAt ks 8), .int .i64 (markAt ks 9)]
theorem eqMarks (ks : List Int) (w : World) : ∃ r, (Op.equalIn 10000 85 (.agg (marksOf ks)) (.agg #[.int .i64 0, .int .i64 0, .int .i64 0, .int .i64 0, .int .i64 0, .int .i64 0, .int .i64 0, .int .i64 0, .int .i64 0, .int .i64 0])).run Try.prog w = .ok r w ∧
    (r = true → marksOf ks = #[.int .i64 0, .int .i64 0, .int .i64 0, .int .i64 0, .int .i64 0, .int .i64 0, .int .i64 0, .int .i64 0, .int .i64 0, .int .i64 0]) := by
  obtain ⟨i, hi⟩ := info3e
  obtain ⟨r, hr, hrr⟩ := eqItems_ex 9998 (marksOf ks) #[.int .i64 0, .int .i64 0, .int .i64 0, .int .i64 0, .int .i64 0, .int .i64 0, .int .i64 0, .int .i64 0, .int .i64 0, .int .i64 0] w (List.range 10) (by
    intro j hj
    have hj := List.mem_range.1 hj
    have : j = 0 ∨ j = 1 ∨ j = 2 ∨ j = 3 ∨ j = 4 ∨ j = 5 ∨ j = 6 ∨ j = 7 ∨ j = 8 ∨ j = 9 := by omega
    rcases this with rfl | rfl | rfl | rfl | rfl | rfl | rfl | rfl | rfl | rfl <;> exact ⟨_, _, rfl, rfl⟩)
  refine ⟨r, ?_, fun h => ?_⟩
  · have := run_equalIn_array (P := Try.prog) w 9999 (marksOf ks) #[.int .i64 0, .int .i64 0, .int .i64 0, .int .i64 0, .int .i64 0, .int .i64 0, .int .i64 0, .int .i64 0, .int .i64 0, .int .i64 0] Try.underlying85 hi
    rw [cells3a] at this
    exact this.trans hr
  · apply Array.ext
    · rfl
    · intro j h1 h2
      have := hrr h j (List.mem_range.2 h1)
      rw [Array.getElem?_eq_getElem h1, Array.getElem?_eq_getElem h2] at this
      injection this
end Go.Proofs.Ytmlahfidnfdhbaa.Pr
namespace Go.Proofs.Ytmlahfidnfdhbaa.Pr
open Go.RowKit Go.Proofs.YtmlahfidnfdhbaaW.PrintWords Go.Proofs.YtmlahfidnfdhbaaW.PrintLast Go.Proofs.YtmlahfidnfdhbaaW.PrintMore
open Go.Maps
set_option maxRecDepth 100000

theorem info105 : (Try.prog.info? 105).map (fun i => (i.zero, i.size, i.bytes)) = some (some (.agg #[.int .i64 0]), 1, 8) := by kernel_rfl

theorem gcell {W W' : World} {bm : Nat} {a : Addr} {v : Value} (hG : W.grownBy W' (some bm)) (h : W.cell? a = some v) (hne : a.block ≠ bm) : W'.cell? a = some v :=
  (World.cell?_of_block (hG.block a.block (World.block_lt_of_cell? _ _ h) (by simp [hne]))).trans h
theorem gfrz {W W' : World} {bm : Nat} {a : Addr} {v : Value} (hG : W.grownBy W' (some bm)) (h : W.cell? a = some v) (hne : a.block ≠ bm) : W'.frozen? a = W.frozen? a :=
  World.frozen?_of_block (hG.block a.block (World.block_lt_of_cell? _ _ h) (by simp [hne]))
theorem gC {α : Type} {d : Kd α} (hd : ∀ w w' x cs, d.K w x cs → d.K w' x cs) {W W' : World} {bm : Nat} {A : Option Addr} {n : Nat} {xs : List α} (h : d.C W A n xs) (hk : W.grownBy W' (some bm)) (hA : ∀ ad, A = some ad → ad.block ≠ bm) : d.C W' A n xs :=
  ⟨h.1, h.2.1, fun hn => by
    obtain ⟨ad, e, hc⟩ := h.2.2 hn
    refine ⟨ad, e, fun j p hj => ?_⟩
    obtain ⟨c, hs, hr, hcell⟩ := hc j p hj
    exact ⟨c, hs, hd _ _ _ _ hr, fun i u hu => gcell hk (hcell i u hu) (by rw [add_block]; exact hA ad e)⟩⟩
theorem below_grown {n bm : Nat} {A B C : World} (h : Below n A B) (hg : B.grownBy C (some bm)) (hn : n ≤ B.heap.size) (hb : n ≤ bm) : Below n A C := h.grown hg hn (fun k e => by cases e; exact hb)

theorem below_of_grown_none {A B : World} (h : A.grownBy B none) : Below A.heap.size A B := ⟨h.os, h.tape, h.output, h.size, fun k hk => h.block k hk (by simp)⟩
theorem marksOf_snoc (xs : List Int) (n : Nat) (hn : n < 10) : (marksOf xs).setIfInBounds n (.int .i64 1) = marksOf (xs ++ [(n : Int)]) := by
  have : n = 0 ∨ n = 1 ∨ n = 2 ∨ n = 3 ∨ n = 4 ∨ n = 5 ∨ n = 6 ∨ n = 7 ∨ n = 8 ∨ n = 9 := by omega
  rcases this with rfl | rfl | rfl | rfl | rfl | rfl | rfl | rfl | rfl | rfl <;> simp [marksOf, markAt]
theorem marksOf_at (xs : List Int) (n : Nat) (hn : n < 10) : (marksOf xs)[n]? = some (.int .i64 (markAt xs n)) := by
  have : n = 0 ∨ n = 1 ∨ n = 2 ∨ n = 3 ∨ n = 4 ∨ n = 5 ∨ n = 6 ∨ n = 7 ∨ n = 8 ∨ n = 9 := by omega
  rcases this with rfl | rfl | rfl | rfl | rfl | rfl | rfl | rfl | rfl | rfl <;> rfl
theorem marksOf_same {xs ys : List Int} (h : ∀ i, i ∈ xs ↔ i ∈ ys) : marksOf xs = marksOf ys := by
  unfold marksOf markAt; simp only [h]
theorem nodup_len_le : ∀ (xs ys : List Int), xs.Nodup → (∀ i ∈ xs, i ∈ ys) → xs.length ≤ ys.length
  | [], _, _, _ => by simp
  | a :: r, ys, hn, hs => by
    obtain ⟨h1, h2⟩ := List.nodup_cons.1 hn
    have ha : a ∈ ys := hs a (by simp)
    have := nodup_len_le r (ys.erase a) h2 (fun i hi => (List.mem_erase_of_ne (fun e => h1 (by rw [← e]; exact hi))).2 (hs i (by simp [hi])))
    rw [List.length_erase_of_mem ha] at this
    have h0 : 0 < ys.length := List.length_pos_of_mem ha
    simp only [List.length_cons]
    omega
abbrev OwnM (W : World) (bm n : Nat) (D : DataW Unit) : Prop := W.ownsMap Try.prog 105 (plainElem Try.prog 3) bm n D

theorem betterBT (B1 B3 g bm n : Nat) (A A1 : Option Addr) (c c1 : Nat) (l : List S58) (ws L : List Int) (D : DataW Unit) (ks : List Int) (W : World)
    (h1 : W.cell? ⟨B1, 0, none⟩ = some (.pointer (some ⟨g, 0, none⟩))) (h3 : W.cell? ⟨B3, 0, none⟩ = some (.map (some bm))) (hD : IsDesk W g A c l A1 c1 ws) (hown : OwnM W bm n D)
    (hh : HasKs D ks (posOf L)) (hkl : ∀ n : Nat, (n : Int) ∈ ks → n < l.length) (hl : l.length < 20) (a b : Int) (ha : a ∈ ks) (hb : b ∈ ks) :
    Calls Try.prog 78 #[.agg #[.int .i64 a], .agg #[.int .i64 b], .pointer (some ⟨B1, 0, none⟩), .pointer (some ⟨B3, 0, none⟩)] W fun e w' => e = .returned (.bool (btOf ws L a b)) ∧ Below W.heap.size W w' := by
  obtain ⟨a', rfl⟩ := Int.eq_ofNat_of_zero_le (hh.range a ha).1
  obtain ⟨b', rfl⟩ := Int.eq_ofNat_of_zero_le (hh.range b hb).1
  have ea := hh.at_ _ ha
  have eb := hh.at_ _ hb
  simp only [klz, Int.toNat_natCast] at ea eb
  have h := better78 B1 B3 g bm n A A1 c c1 l ws D a' b' (posOf L a') (posOf L b') W h1 h3 hD hown (hkl _ ha) (hkl _ hb) hl ea eb
  refine h.mono ?_
  rintro e w' ⟨rfl, hB⟩
  exact ⟨rfl, hB⟩

set_option maxHeartbeats 2000000 in
theorem kept62 (g : Nat) (A A1 : Option Addr) (c c1 : Nat) (l : List S58) (ws : List Int) (w : World) (hD : IsDesk w g A c l A1 c1 ws) (hlo : l.length ≤ 10) :
    Calls Try.prog 62 #[.pointer (some ⟨g, 0, none⟩)] w fun e w' => e = .returned (.agg (marksOf (keptL l ws))) ∧ Below w.heap.size w w' := by
  have hu71 := Try.underlying71
  have hu73 := Try.underlying73
  have hu58 := Try.underlying58
  have hmm := @run_makeMap Try.prog
  have HD := Lib.hid hD; clear hD
  have HL := Lib.hid (byDueL_len l)
  have e0 := HD.out.o
  have e0a : ∀ o1 o2 o3 o4, ((((w.alloc o1).alloc o2).alloc o3).alloc o4).cell? ⟨g, 0, none⟩ = _ := fun o1 o2 o3 o4 => cell_al o4 (cell_al o3 (cell_al o2 (cell_al o1 e0)))
  obtain ⟨w4, hw4⟩ : ∃ w4 : World, w4 = (((w.alloc (.cells #[.pointer (some ⟨g, 0, none⟩)] 67)).alloc (.cells #[.int .i64 0, .int .i64 0, .int .i64 0, .int .i64 0, .int .i64 0, .int .i64 0, .int .i64 0, .int .i64 0, .int .i64 0, .int .i64 0] 85)).alloc (.map #[] 0)).alloc (.cells #[.map (some (w.heap.size + 1 + 1))] 103) := ⟨_, rfl⟩
  have hB4 : Below w.heap.size w w4 := by rw [hw4]; exact ((((Below.refl _ w).alloc (Nat.le_refl _) _).alloc (by simp) _).alloc (by simp; omega) _).alloc (by simp; omega) _
  have hs4 : w4.heap.size = w.heap.size + 1 + 1 + 1 + 1 := by rw [hw4]; simp
  have c1' : w4.cell? ⟨w.heap.size, 0, none⟩ = some (.pointer (some ⟨g, 0, none⟩)) := by rw [hw4]; exact cell_al _ (cell_al _ (cell_al _ (cell_new_l w _ _).1))
  have c2' : w4.heap[w.heap.size + 1]? = some (.cells #[.int .i64 0, .int .i64 0, .int .i64 0, .int .i64 0, .int .i64 0, .int .i64 0, .int .i64 0, .int .i64 0, .int .i64 0, .int .i64 0] 85) := by
    rw [hw4, heap_alloc_old _ _ (by simp), heap_alloc_old _ _ (by simp)]
    have := heap_alloc_new (w.alloc (.cells #[.pointer (some ⟨g, 0, none⟩)] 67)) (.cells #[.int .i64 0, .int .i64 0, .int .i64 0, .int .i64 0, .int .i64 0, .int .i64 0, .int .i64 0, .int .i64 0, .int .i64 0, .int .i64 0] 85)
    rw [World.size_alloc] at this; exact this
  have c3' : w4.cell? ⟨w.heap.size + 1 + 1 + 1, 0, none⟩ = some (.map (some (w.heap.size + 1 + 1))) := by
    rw [hw4]
    have := (cell_new_l (((w.alloc (.cells #[.pointer (some ⟨g, 0, none⟩)] 67)).alloc (.cells #[.int .i64 0, .int .i64 0, .int .i64 0, .int .i64 0, .int .i64 0, .int .i64 0, .int .i64 0, .int .i64 0, .int .i64 0, .int .i64 0] 85)).alloc (.map #[] 0)) (.map (some (w.heap.size + 1 + 1))) 103).1
    rw [World.size_alloc, World.size_alloc, World.size_alloc] at this; exact this
  have own4 : OwnM w4 (w.heap.size + 1 + 1) 0 (.map []) := by
    rw [hw4]
    have := (World.ownsMap_made ((w.alloc (.cells #[.pointer (some ⟨g, 0, none⟩)] 67)).alloc (.cells #[.int .i64 0, .int .i64 0, .int .i64 0, .int .i64 0, .int .i64 0, .int .i64 0, .int .i64 0, .int .i64 0, .int .i64 0, .int .i64 0] 85)) Try.prog 105 (plainElem (H := Unit) Try.prog 3)).alloc (.cells #[.map (some (w.heap.size + 1 + 1))] 103)
    rw [World.size_alloc, World.size_alloc] at this; exact this
  have HB4 := Lib.hid hB4; have HC2 := Lib.hid c2'; have HO4 := Lib.hid own4; have HS4 := Lib.hid hs4
  clear hB4 c2' own4 hs4 hmm
  have hmm := @run_makeMap Try.prog
  go_enter Try.func62, Try.ntmps62
  go_wp2_with (go_at_call 52; rw [← hw4]; refine (byDue52 A c l w4 (by omega) (Kd.C_below HD.out.ho HB4.out)).mono ?_; clear hw4; rintro e w5 ⟨v5, rfl, hR5, hb5⟩; obtain ⟨A5, c5, rfl, _, hC5⟩ := Kd.R_reads hR5; rw [HL.out] at hC5; rw [HL.out]; have HR5 := Lib.hid hR5; have HC5 := Lib.hid hC5; have HB5 := Lib.hid hb5; have d1 := pw_cell_below hb5 c1'; have d3 := pw_cell_below hb5 c3'; clear c1' c3' hC5 hR5 hb5)
  have hA5 : 0 < l.length → ∀ ad, A5 = some ad → ad.block ≠ w.heap.size + 1 + 1 := by
    intro h0 ad e
    obtain ⟨b, cap, e2, hb, _⟩ := Kd.R_form HR5.out (by rw [HL.out]; exact h0)
    injection e2 with e2
    rw [e] at e2
    injection e2 with e2
    rw [e2]
    have := HS4.out
    show b ≠ _
    omega
  have HA5 := Lib.hid hA5; clear hA5
  go_loopw [4, 19] (fun v i wr => ∃ (k : Nat) (ks : List Int) (day : Int) (D : DataW Unit), k ≤ l.length ∧ i = .int .i64 k ∧ v = .int .i64 day ∧ Hid (keptAt l ws k = (ks, day)) ∧ Hid (OwnM wr (w.heap.size + 1 + 1) k D) ∧ Hid (HasKs D ks (posOf (byDueL l))) ∧ Hid (w5.grownBy wr (some (w.heap.size + 1 + 1)))) (fun _ i _ => l.length - (intOf i).toNat)
  case atStart =>
    refine ⟨0, [], 0, .map [], Nat.zero_le _, rfl, rfl, ?_, ?_, ?_, ?_⟩
    · exact rfl
    · exact ownsMap_below HO4.out HB5.out
    · exact HasKs.nil _
    · exact ⟨rfl, rfl, rfl, Nat.le_refl _, fun _ _ _ => rfl⟩
  case round =>
    obtain ⟨k, ks, day, D, hk, rfl, rfl, HK, HO, HH, HG⟩ := hrel
    have hBw : Below w.heap.size w wr := below_grown (HB4.out.trans (HB5.out.mono HB4.out.size)) HG.out (by have := HB4.out.size; have := HB5.out.size; omega) (by omega)
    have HBW := Lib.hid hBw; clear hBw
    have HBR := Lib.hid (byDueL_range l)
    have hs5 : w.heap.size + 1 + 1 + 1 + 1 ≤ wr.heap.size := by have := HS4.out; have := HB5.out.size; have := HG.out.size; omega
    by_cases hlt : k < l.length
    · have hl0 : 0 < l.length := by omega
      have d1r := gcell HG.out d1 (by show w.heap.size ≠ _; omega)
      have d3r := gcell HG.out d3 (by show w.heap.size + 1 + 1 + 1 ≠ _; omega)
      have hC5 := gC (d := Kd.int .i64) (fun _ _ _ _ h => h) HC5.out HG.out (HA5.out hl0)
      obtain ⟨adx, rfl, q1⟩ := C_cell hC5 k hlt
      obtain ⟨hy0, hy1⟩ := AllP_rd HBR.out k (by rw [HL.out]; exact hlt)
      have hpos := posOf_at l k (by rw [HL.out]; exact hlt)
      have hstep := keptAt_succ l ws k (by rw [HL.out]; exact hlt)
      rw [HK.out] at hstep
      obtain ⟨y, hy⟩ := Int.eq_ofNat_of_zero_le hy0
      rw [hy] at hy1 q1 hpos hstep
      have HRY := Lib.hid hy
      clear hy hy0 hC5
      have hyl : y < l.length := by omega
      obtain ⟨ad2, rfl, t1, t2, t3⟩ := at_T58 HD.out.ho y (by omega) (by omega)
      obtain ⟨ad3, rfl, t4⟩ := C_cell HD.out.hk y hyl
      simp only [Int.toNat_natCast] at t1 t2 t3 t4
      have dk := HD.out.k
      have dor := HD.out.o
      clear t1 t2
      have HST := Lib.hid hstep
      have HPOS := Lib.hid hpos
      clear hstep hpos
      have T3 := Lib.hid t3; have T4 := Lib.hid t4; have DK := Lib.hid dk; have DO := Lib.hid dor
      clear t3 t4 dk dor
      by_cases hle : wrap64 (day + rd ws y) ≤ (rd_T58 l y).f1
      · have hE : keptStep l ws (ks, day) y = (ks ++ [(y : Int)], wrap64 (day + rd ws y)) := by unfold keptStep; exact if_pos hle
        have HE := Lib.hid (HST.out.trans hE); clear hE
        go_wp2_with ((at_mapUpdate; refine wpList_mapUpdate_own _ rfl _ _ _ 103 rfl 105 3 law105 Try.underlying103 _ (w.heap.size + 1 + 1) k D rfl HO.out (by unfold maxLen; omega) _ _ _ rfl rfl (hklz (x := (y : Int)) (by omega) (by omega)) _ [] (plainElem_int Try.underlying3 (WalkArith.wf_i64 (by omega))) ?_; intro w1 hown1 hgrow1; have hB1 := below_grown HBW.out hgrow1 (by omega) (by omega); have HO1 := Lib.hid hown1; have HG1 := Lib.hid (HG.out.andThen hgrow1 (fun j hj => by cases hj; exact Or.inr rfl)); have a1 := gcell hgrow1 d1r (by show w.heap.size ≠ _; omega); have a3 := pw_cell_below hB1 T3.out; have a4 := pw_cell_below hB1 T4.out; have ak := pw_cell_below hB1 DK.out; have ao := pw_cell_below hB1 DO.out; clear hown1 hgrow1))
        refine ⟨⟨k + 1, ks ++ [(y : Int)], wrap64 (day + rd ws y), D.put (klz y) (.lit (.int .i64 (k : Int))), by omega, by go_num, rfl, HE, HO1, ?_, HG1⟩, by simp [intOf]; omega⟩
        have := HH.out.put HO.out.isMap (x := (y : Int)) (by omega) (by omega)
        rw [HPOS.out] at this
        exact this
      · have hE : keptStep l ws (ks, day) y = ((ks ++ [(y : Int)]).erase (worstOf (btOf ws (byDueL l)) (ks ++ [(y : Int)])), wrap64 (wrap64 (day + rd ws y) - rd ws (worstOf (btOf ws (byDueL l)) (ks ++ [(y : Int)])))) := by unfold keptStep; exact if_neg hle
        have HE := Lib.hid (HST.out.trans hE); clear hE
        go_wp2_with (first
          | (at_mapUpdate; refine wpList_mapUpdate_own _ rfl _ _ _ 103 rfl 105 3 law105 Try.underlying103 _ (w.heap.size + 1 + 1) k D rfl HO.out (by unfold maxLen; omega) _ _ _ rfl rfl (hklz (x := (y : Int)) (by omega) (by omega)) _ [] (plainElem_int Try.underlying3 (WalkArith.wf_i64 (by omega))) ?_; intro w1 hown1 hgrow1; have hB1 := below_grown HBW.out hgrow1 (by omega) (by omega); have HO1 := Lib.hid hown1; have hs1 := hgrow1.size; have b3 := gcell hgrow1 d3r (by show w.heap.size + 1 + 1 + 1 ≠ _; omega); have HBW1 := Lib.hid hB1; have HG1 := Lib.hid (HG.out.andThen hgrow1 (fun j hj => by cases hj; exact Or.inr rfl)); have a1 := gcell hgrow1 d1r (by show w.heap.size ≠ _; omega); have a3 := pw_cell_below hB1 T3.out; have a4 := pw_cell_below hB1 T4.out; have ak := pw_cell_below hB1 DK.out; have ao := pw_cell_below hB1 DO.out; clear hown1 hgrow1)
          | (at_range; refine wpList_range_own _ rfl _ 103 rfl 105 3 law105 Try.underlying103 _ (w.heap.size + 1 + 1) _ _ rfl HO1.out ?_; intro w2 hrg2 hg2 hs2))
        try go_frame
        have hh1 := HH.out.put HO.out.isMap (x := (y : Int)) (by omega) (by omega)
        rw [HPOS.out] at hh1
        have HH1 := Lib.hid hh1; clear hh1
        have HRG2 := Lib.hid hrg2; have HG2 := Lib.hid hg2; clear hrg2 hg2
        generalize hD1 : D.put (klz y) (.lit (.int .i64 (k : Int))) = D1 at *
        generalize hks1 : ks ++ [(y : Int)] = ks1 at *
        have hksub : ks1.Sublist (byDueL l) := by
          have hsub := keptAt_sub l ws k (by rw [HL.out]; exact hk)
          rw [HK.out] at hsub
          have h1 := (hsub.append (List.Sublist.refl [rd (byDueL l) k]))
          rw [rd_get _ k (by rw [HL.out]; exact hlt), ← List.take_succ_eq_append_getElem] at h1
          have h2 := h1.trans (List.take_sublist (k + 1) _)
          have hq := HRY.out
          rw [rd_get _ k (by rw [HL.out]; exact hlt)] at hq
          rw [hq] at h2
          rw [← hks1]
          exact h2
        have HND := Lib.hid (hksub.nodup (byDueL_nodup l))
        have hk1n : 0 < ks1.length := by rw [← hks1]; simp
        have hkm : ∀ i ∈ ks1, i ∈ byDueL l := fun i hi => hksub.subset hi
        have HKM := Lib.hid hkm; clear hkm
        have hkl : ∀ n : Nat, (n : Int) ∈ ks1 → n < l.length := fun n hn => by
          have h1 := hksub.subset hn
          have := HBR.out n h1
          omega
        have HKL := Lib.hid hkl; clear hkl
        have hlen1 : ks1.length ≤ 20 := by have := hksub.length_le; rw [HL.out] at this; omega
        clear hksub
        clear hks1 hD1
        go_loopw [7] (fun v wq => ∃ (left : Lit → Bool) (cnt : Nat) (xs : List Int), Hid (wq.ranges Try.prog 105 (plainElem Try.prog 3) (w.heap.size + 1 + 1) w1.heap.size (k + 1) D1 left cnt) ∧ Hid (Kd.R (Kd.int .i64) 105 wq (w1.heap.size + 1) (fun _ => True) v xs) ∧ Hid (∀ i ∈ xs, i ∈ ks1 ∧ left (klz i) = false) ∧ Hid (∀ i ∈ ks1, left (klz i) = false → i ∈ xs) ∧ Hid xs.Nodup ∧ Hid (Below w1.heap.size w1 wq)) (fun _ wq => wq.rangeLeft (w.heap.size + 1 + 1) w1.heap.size)
        case atStart =>
          refine ⟨_, _, [], HRG2, Kd.R_nil _ _ _ _ _, ?_, ?_, ?_, ?_⟩
          · intro i hi; cases hi
          · intro i hi hf
            have := (HH1.out.has (klz i)).2 ⟨i, hi, rfl⟩
            rw [this] at hf; cases hf
          · exact List.nodup_nil
          · exact below_of_grown_none HG2.out
        case round =>
          obtain ⟨left, cnt, xs, HRG, HRX, HX1, HX2, HXN, HBQ⟩ := hrel
          go_wp2_with (at_next; refine wpList_next_ranges _ rfl _ rfl 105 law105 (plainElem Try.prog 3) (fun x : Int => .agg #[.int .i64 x]) (Value.int .i64) (fun key kl hkey => keyOf_inv105 hkey) (fun v y hv => by obtain ⟨c, rfl, _⟩ := plainElem_int_inv Try.underlying3 hv; exact ⟨c, rfl⟩) (w.heap.size + 1 + 1) w1.heap.size (k + 1) D1 left cnt rfl HRG.out ?_ ?_)
          · intro _ hl0
            obtain ⟨A7, c7, rfl, hc7, hC7⟩ := Kd.R_reads HRX.out
            have hperm : xs.Perm ks1 := by
              refine (List.perm_ext_iff_of_nodup HXN.out HND.out).2 (fun i => ⟨fun h => (HX1.out i h).1, fun h => HX2.out i h (hl0 _)⟩)
            have HPM := Lib.hid hperm; clear hperm hl0
            have hbw : Below w.heap.size w wr := HBW1.out.trans (HBQ.out.mono HBW1.out.size)
            have z1 := pw_cell_below HBQ.out a1
            have z3 := pw_cell_below HBQ.out b3
            have hown7 := HRG.out.owns
            have hf78 : ∀ x y W, x ∈ xs → y ∈ xs → Below wr.heap.size wr W → Calls Try.prog 78 #[.agg #[.int .i64 x], .agg #[.int .i64 y], .pointer (some ⟨w.heap.size, 0, none⟩), .pointer (some ⟨w.heap.size + 1 + 1 + 1, 0, none⟩)] W fun e w' => e = .returned (.bool (btOf ws (byDueL l) x y)) ∧ Below W.heap.size W w' :=
              fun a b W ha hb hW => betterBT w.heap.size (w.heap.size + 1 + 1 + 1) g (w.heap.size + 1 + 1) (k + 1) (some ad2) (some ad3) c c1 l ws (byDueL l) D1 ks1 W (pw_cell_below hW z1) (pw_cell_below hW z3) (HD.out.below (hbw.trans (hW.mono hbw.size))) (ownsMap_below hown7 hW) HH1.out HKL.out (by omega) a b (HX1.out a ha).1 (HX1.out b hb).1
            have hbest := best77 A7 c7 xs (btOf ws (byDueL l)) w.heap.size (w.heap.size + 1 + 1 + 1) wr hC7 hc7 (by rw [HPM.out.length_eq]; exact hk1n) hf78
            clear hf78
            rw [show bestTo (btOf ws (byDueL l)) xs (xs.length - 1) = worstOf (btOf ws (byDueL l)) ks1 from worstOf_perm _ (btOf_irr ws _) (btOf_trans ws _) HPM.out hk1n (fun a b ha hb hne => btOf_total ws _ a b (HKM.out a ha) hne)] at hbest
            have hwm := worstOf_mem (btOf ws (byDueL l)) ks1 hk1n
            obtain ⟨o, ho⟩ : ∃ o, o = worstOf (btOf ws (byDueL l)) ks1 := ⟨_, rfl⟩
            rw [← ho] at hbest hwm
            have hor := HH1.out.range o hwm
            obtain ⟨o', rfl⟩ := Int.eq_ofNat_of_zero_le hor.1
            have hol := HKL.out o' hwm
            obtain ⟨_, e3, t5⟩ := C_cell HD.out.hk o' hol
            cases e3
            have T5 := Lib.hid t5; clear t5
            have HBEST := Lib.hid hbest; clear hbest
            have HOW := Lib.hid ho; clear ho
            have HOWN := Lib.hid hown7; clear hown7
            have HWB := Lib.hid hbw; clear hbw
            go_wp2_with (go_at_call 77; refine HBEST.out.mono ?_; rintro e w7 ⟨rfl, hb7⟩; have y1 : ∀ o, (w7.alloc o).cell? ⟨w.heap.size, 0, none⟩ = _ := fun o => cell_al o (pw_cell_below hb7 z1); have y3 := pw_cell_below hb7 z3; have hb07 : Below w.heap.size w w7 := HWB.out.trans (hb7.mono HWB.out.size); have y5 : ∀ o, (w7.alloc o).cell? (ad3.add o') = _ := fun o => cell_al o (pw_cell_below hb07 T5.out); have yk : ∀ o, (w7.alloc o).cell? ⟨g, 1, none⟩ = _ := fun o => cell_al o (pw_cell_below hb07 DK.out); have HB7 := Lib.hid hb7; have HB07 := Lib.hid hb07; clear hb7 hb07)
            obtain ⟨w8, hw8⟩ : ∃ w8 : World, w8 = w7.alloc (.cells #[.int .i64 (o' : Int)] 105) := ⟨_, rfl⟩
            have x1 := y1 (.cells #[.int .i64 (o' : Int)] 105)
            have x3 := cell_al (.cells #[.int .i64 (o' : Int)] 105) y3
            have x5 := y5 (.cells #[.int .i64 (o' : Int)] 105)
            have xk := yk (.cells #[.int .i64 (o' : Int)] 105)
            have x9 := (cell_new_l w7 (.int .i64 (o' : Int)) 105).1
            have HB8 : Hid (Below w1.heap.size w1 w8) := by rw [hw8]; exact (HBQ.out.trans (HB7.out.mono HBQ.out.size)).alloc (by have := HBQ.out.size; have := HB7.out.size; omega) _
            have HO8 : Hid (OwnM w8 (w.heap.size + 1 + 1) (k + 1) D1) := by rw [hw8]; exact (ownsMap_below HOWN.out HB7.out).alloc _
            rw [← hw8] at x1 x3 x5 xk x9 ⊢
            clear hw8 y1 y3 y5 yk
            go_quiet (fail)
            obtain ⟨w9, hw9⟩ : ∃ w9 : World, w9 = w8.drewN nq := ⟨_, rfl⟩
            have HB9 : Hid (Below w1.heap.size w1 w9) := by rw [hw9]; exact grown_drawnB HB8.out nq
            have HO9 : Hid (OwnM w9 (w.heap.size + 1 + 1) (k + 1) D1) := by rw [hw9]; exact ownsMap_below HO8.out (grown_drawnB (Below.refl _ _) nq)
            have x39 : w9.cell? ⟨w.heap.size + 1 + 1 + 1, 0, none⟩ = some (.map (some (w.heap.size + 1 + 1))) := by rw [hw9]; exact pw_cell_below (grown_drawnB (Below.refl _ _) nq) x3
            have x99 : w9.cell? ⟨w7.heap.size, 0, none⟩ = some (.int .i64 (o' : Int)) := by rw [hw9]; exact pw_cell_below (grown_drawnB (Below.refl _ _) nq) x9
            rw [← hw9]
            clear hw9 x1 x3 x5 xk x9
            go_wp2_with (at_delete; refine wpList_delete_own _ rfl _ _ 103 105 rfl 3 law105 Try.underlying103 _ (w.heap.size + 1 + 1) (k + 1) D1 rfl HO9.out _ _ rfl (hklz (x := (o' : Int)) (by omega) (by omega)) ?_; intro w10 hown10 hturn10; have HO10 := Lib.hid hown10; have HT10 := Lib.hid hturn10.grown; clear hown10 hturn10)
            refine ⟨⟨k + 1, ks1.erase o', wrap64 (wrap64 (day + rd ws y) - rd ws o'), D1.del (klz o'), by omega, by go_num, rfl, ?_, HO10, ?_, ?_⟩, by simp [intOf]; omega⟩
            · have := HE.out
              rw [← HOW.out] at this
              exact this
            · exact HH1.out.del HND.out hwm
            · exact (HG1.out.andThen (grown_of_below HB9.out none) (fun j hj => by cases hj)).andThen HT10.out (fun j hj => by cases hj; exact Or.inr rfl)
          · intro x cv kl' d' p' w3 cnt3 hkey hlk hR hat hrg3 hlt3 hg3 hs3 hen
            have hhas := has_true_of_atKey hat
            obtain ⟨i, hi, rfl⟩ := (HH1.out.has kl').1 hhas
            have hir := HH1.out.range i hi
            have hxi := law105.inj hkey (hklz hir.1 hir.2)
            have hxi2 : x = i := by
              simp only [Value.agg.injEq, Array.mk.injEq, List.cons.injEq, Value.int.injEq, true_and, and_true] at hxi
              exact hxi
            subst hxi2
            clear hxi hkey hR hat hhas
            have hxn : x ∉ xs := fun hx => by have := (HX1.out x hx).2; rw [this] at hlk; cases hlk
            have hRX3 := Kd.R_grown2 HRX.out rfl hg3 (fun j hj e => by cases hj; have := Kd.R_base HRX.out _ e.symm; omega)
            have hB3 : Below w1.heap.size w1 w3 := HBQ.out.grown hg3 HBQ.out.size (fun j hj => by cases hj; exact Nat.le_refl _)
            have HRX3 := Lib.hid hRX3; have HB3 := Lib.hid hB3; have HRG3 := Lib.hid hrg3; have HEN := Lib.hid hen; clear hRX3 hB3 hrg3
            have hxl : xs.length ≤ 20 := by
              have := nodup_len_le xs ks1 HXN.out (fun i hi => (HX1.out i hi).1)
              omega
            have hnb : ∀ j, u7.ownBlock = some j → w1.heap.size + 1 ≤ j := Kd.R_base HRX.out
            have HNB := Lib.hid hnb; clear hnb
            have hs31 := HRG3.out.lt
            have HS3 := Lib.hid hs3; clear hs3
            go_wp2_with ((with_reducible refine gate_builtin (b := .append) (xs := #[.tmp 54, .tmp 56]) rfl ?_); at_builtin; refine Kd.R_append (Kd.int .i64) (w0 := w3) (w1.heap.size + 1) rfl (.tmp 54) (.tmp 56) 106 105 (.agg #[.int .i64 0]) 8 rfl Try.underlying106 info105 rfl (by decide) (by omega) u7 xs x [.int .i64 x] (fun _ => True) (fun _ => False) rfl ?aX ?aP (fun _ hk => hk.elim) ?aF ?aO ?aB ?aS ?aL ?_; (case aX => rw [World.size_alloc]; exact rfl); (case aP => exact rfl); (case aF => exact fun _ _ => trivial); (case aO => exact Kd.R_alloc HRX3.out _); (case aB => exact (Below.refl _ w3).alloc (by omega) _); (case aS => simp; omega); (case aL => omega); intro v6 w6 ho6 hb6 hg6 hat6; have HO6 := Lib.hid ho6; have HB6 := Lib.hid hb6; have HRG6 := Lib.hid ((HRG3.out.alloc _).kept hg6 (fun e => by have := HNB.out _ e.symm; omega) (fun e => by have := HNB.out _ e.symm; omega)); clear ho6 hb6 hg6 hat6)
            have hks := klz_key hir.1 hir.2
            refine ⟨⟨fun z => left z && !z.sameKey (klz x), cnt3, xs ++ [x], HRG6, HO6, ?_, ?_, ?_, ?_⟩, by rw [HRG6.out.left_eq, HRG.out.left_eq]; exact hlt3⟩
            · intro i hi2
              rcases List.mem_append.1 hi2 with hi2 | hi2
              · have := HX1.out i hi2
                exact ⟨this.1, by show (left (klz i) && _) = false; rw [this.2]; rfl⟩
              · simp only [List.mem_singleton] at hi2
                subst hi2
                exact ⟨hi, by show (left (klz i) && !(klz i).sameKey (klz i)) = false; rw [WideAt.sameKey_self hks]; simp⟩
            · intro i hi2 hf
              by_cases he : i = x
              · subst he; exact List.mem_append.2 (.inr (List.mem_singleton.2 rfl))
              · refine List.mem_append.2 (.inl (HX2.out i hi2 ?_))
                have hr2 := HH1.out.range i hi2
                have hf2 : (left (klz i) && !(klz i).sameKey (klz x)) = false := hf
                cases hsk : (klz i).sameKey (klz x)
                · rw [hsk] at hf2; simpa using hf2
                · exact absurd (klz_inj hr2.1 hr2.2 hir.1 hir.2 (WideAt.sameKey_eq hsk)) he
            · exact List.nodup_append.2 ⟨HXN.out, by simp, fun a ha b hb => by simp only [List.mem_singleton] at hb; subst hb; exact fun e => hxn (by rw [← e]; exact ha)⟩
            · exact HB3.out.trans (HB6.out.mono (by omega))
    · obtain rfl : k = l.length := by omega
      have d3r := gcell HG.out d3 (by show w.heap.size + 1 + 1 + 1 ≠ _; omega)
      have d3a := fun o => cell_al o d3r
      have HOA := Lib.hid (HO.out.alloc (.cells #[.int .i64 0, .int .i64 0, .int .i64 0, .int .i64 0, .int .i64 0, .int .i64 0, .int .i64 0, .int .i64 0, .int .i64 0, .int .i64 0] 85))
      have hb10 := heap_alloc_new wr (.cells #[.int .i64 0, .int .i64 0, .int .i64 0, .int .i64 0, .int .i64 0, .int .i64 0, .int .i64 0, .int .i64 0, .int .i64 0, .int .i64 0] 85)
      have HB10 := Lib.hid hb10; clear hb10
      obtain ⟨wA, rfl⟩ : ∃ wA : World, wA = wr := ⟨_, rfl⟩
      have hu85 := Try.underlying85
      go_wp2_with (at_range; refine wpList_range_own _ rfl _ 103 rfl 105 3 law105 Try.underlying103 _ (w.heap.size + 1 + 1) _ _ rfl HOA.out ?_; intro w2 hrg2 hg2 hs2; have HRG2 := Lib.hid hrg2; have HG2 := Lib.hid hg2; clear hrg2 hg2)
      try go_frame
      have HBA : Hid (Below wA.heap.size wA w2) := ((Below.refl _ wA).alloc (Nat.le_refl _) _).trans ((below_of_grown_none HG2.out).mono (by simp))
      have HB2 : Hid (w2.heap[wA.heap.size]? = some (.cells (marksOf []) 85)) := blk_grown HB10.out HG2.out (by simp)
      simp only [World.size_alloc] at HRG2 hs2 ⊢
      go_loopw [11] (fun _ wq => ∃ (left : Lit → Bool) (cnt : Nat) (xs : List Int), Hid (wq.ranges Try.prog 105 (plainElem Try.prog 3) (w.heap.size + 1 + 1) (wA.heap.size + 1) l.length D left cnt) ∧ Hid (wq.heap[wA.heap.size]? = some (.cells (marksOf xs) 85)) ∧ Hid (∀ i ∈ xs, i ∈ ks ∧ left (klz i) = false) ∧ Hid (∀ i ∈ ks, left (klz i) = false → i ∈ xs) ∧ Hid (Below wA.heap.size wA wq)) (fun _ wq => wq.rangeLeft (w.heap.size + 1 + 1) (wA.heap.size + 1))
      case atStart =>
        refine ⟨_, _, [], HRG2, HB2, ?_, ?_, HBA⟩
        · intro i hi; cases hi
        · intro i hi hf
          have := (HH.out.has (klz i)).2 ⟨i, hi, rfl⟩
          rw [this] at hf; cases hf
      case round =>
        obtain ⟨left, cnt, xs, HRG, HBX, HX1, HX2, HBQ⟩ := hrel
        go_wp2_with (at_next; refine wpList_next_ranges _ rfl _ rfl 105 law105 (plainElem Try.prog 3) (fun x : Int => .agg #[.int .i64 x]) (Value.int .i64) (fun key kl hkey => keyOf_inv105 hkey) (fun v y hv => by obtain ⟨c, rfl, _⟩ := plainElem_int_inv Try.underlying3 hv; exact ⟨c, rfl⟩) (w.heap.size + 1 + 1) (wA.heap.size + 1) l.length D left cnt rfl HRG.out ?_ ?_)
        · intro _ hl0
          have hsame := marksOf_same (fun i => ⟨fun h => (HX1.out i h).1, fun h => HX2.out i h (hl0 _)⟩ : ∀ i, i ∈ xs ↔ i ∈ ks)
          have hkk : keptL l ws = ks := by unfold keptL; rw [HL.out, HK.out]
          rw [hsame] at HBX
          rw [← hkk] at HBX
          clear hkk
          have hc10 := fun j (hj : j < 10) => (blk_cell HBX.out j).trans (marksOf_at (keptL l ws) j hj)
          have i0 := hc10 0 (by omega); have i1 := hc10 1 (by omega); have i2 := hc10 2 (by omega); have i3 := hc10 3 (by omega); have i4 := hc10 4 (by omega)
          have i5 := hc10 5 (by omega); have i6 := hc10 6 (by omega); have i7 := hc10 7 (by omega); have i8 := hc10 8 (by omega); have i9 := hc10 9 (by omega)
          clear hc10 hsame hl0
          have hb2 := blk_below (blk_grown (blk_below HC2.out HB5.out) HG.out (by simp)) HBQ.out
          have hj := fun j => blk_cell hb2 j
          have hf := fun j => blk_frozen hb2 j
          have HB2 := Lib.hid hb2; clear hb2
          obtain ⟨kk, hk2⟩ : ∃ kk, kk = keptL l ws := ⟨_, rfl⟩
          rw [← hk2] at HBX i0 i1 i2 i3 i4 i5 i6 i7 i8 i9
          have HK2 := Lib.hid hk2; clear hk2
          obtain ⟨r, heq, hre⟩ := eqMarks kk wr
          have HRE := Lib.hid hre; clear hre
          have heq2 : (Op.equalIn 10000 85 (.agg #[.int .i64 (markAt kk 0), .int .i64 (markAt kk 1), .int .i64 (markAt kk 2), .int .i64 (markAt kk 3), .int .i64 (markAt kk 4), .int .i64 (markAt kk 5), .int .i64 (markAt kk 6), .int .i64 (markAt kk 7), .int .i64 (markAt kk 8), .int .i64 (markAt kk 9)]) (.agg #[.int .i64 0, .int .i64 0, .int .i64 0, .int .i64 0, .int .i64 0, .int .i64 0, .int .i64 0, .int .i64 0, .int .i64 0, .int .i64 0])).run Try.prog wr = .ok r wr := heq
          clear heq
          have HWF : Hid (Below w.heap.size w wr) := HBW.out.trans (HBQ.out.mono HBW.out.size)
          cases r
          · go_wp2
            refine bodyPost_ret (v := .agg (marksOf kk)) (by simp [results, Try.f62, go_sem, hj, hf, marksOf]) rfl ?_
            exact ⟨by rw [HK2.out], ((((((((((HWF.out.setCell (p := ⟨w.heap.size + 1, 0, none⟩) (by simp) _).setCell (p := ⟨w.heap.size + 1, 1, none⟩) (by simp) _).setCell (p := ⟨w.heap.size + 1, 2, none⟩) (by simp) _).setCell (p := ⟨w.heap.size + 1, 3, none⟩) (by simp) _).setCell (p := ⟨w.heap.size + 1, 4, none⟩) (by simp) _).setCell (p := ⟨w.heap.size + 1, 5, none⟩) (by simp) _).setCell (p := ⟨w.heap.size + 1, 6, none⟩) (by simp) _).setCell (p := ⟨w.heap.size + 1, 7, none⟩) (by simp) _).setCell (p := ⟨w.heap.size + 1, 8, none⟩) (by simp) _).setCell (p := ⟨w.heap.size + 1, 9, none⟩) (by simp) _)⟩
          · have hm := HRE.out rfl
            have HM : Hid (Value.agg (marksOf kk) = .agg #[.int .i64 0, .int .i64 0, .int .i64 0, .int .i64 0, .int .i64 0, .int .i64 0, .int .i64 0, .int .i64 0, .int .i64 0, .int .i64 0]) := congrArg Value.agg hm
            clear hm HRE
            go_wp2
            refine bodyPost_ret (v := .agg #[.int .i64 0, .int .i64 0, .int .i64 0, .int .i64 0, .int .i64 0, .int .i64 0, .int .i64 0, .int .i64 0, .int .i64 0, .int .i64 0]) (by simp [results, Try.f62, go_sem, hj, hf]) rfl ?_
            rw [HK2.out] at HM
            exact ⟨by rw [HM.out], ((((((((((HWF.out.setCell (p := ⟨w.heap.size + 1, 0, none⟩) (by simp) _).setCell (p := ⟨w.heap.size + 1, 1, none⟩) (by simp) _).setCell (p := ⟨w.heap.size + 1, 2, none⟩) (by simp) _).setCell (p := ⟨w.heap.size + 1, 3, none⟩) (by simp) _).setCell (p := ⟨w.heap.size + 1, 4, none⟩) (by simp) _).setCell (p := ⟨w.heap.size + 1, 5, none⟩) (by simp) _).setCell (p := ⟨w.heap.size + 1, 6, none⟩) (by simp) _).setCell (p := ⟨w.heap.size + 1, 7, none⟩) (by simp) _).setCell (p := ⟨w.heap.size + 1, 8, none⟩) (by simp) _).setCell (p := ⟨w.heap.size + 1, 9, none⟩) (by simp) _)⟩
        · intro x cv kl' d' p' w3 cnt3 hkey hlk hR hat hrg3 hlt3 hg3 hs3 hen
          have hhas := has_true_of_atKey hat
          obtain ⟨i, hi, rfl⟩ := (HH.out.has kl').1 hhas
          have hir := HH.out.range i hi
          have hxi := law105.inj hkey (hklz hir.1 hir.2)
          have hxi2 : x = i := by
            simp only [Value.agg.injEq, Array.mk.injEq, List.cons.injEq, Value.int.injEq, true_and, and_true] at hxi
            exact hxi
          subst hxi2
          clear hxi hkey hR hat hhas
          have hxl : x < 10 := by
            have h1 := keptAt_sub l ws l.length (by rw [HL.out]; exact Nat.le_refl _)
            rw [HK.out] at h1
            have h2 := HBR.out x ((h1.trans (List.take_sublist _ _)).subset hi)
            omega
          obtain ⟨x', rfl⟩ := Int.eq_ofNat_of_zero_le hir.1
          have hx10 : x' < 10 := by omega
          have hb3 := blk_grown HBX.out hg3 (by simp)
          have q1 : ∀ o, (w3.alloc o).cell? ⟨wA.heap.size, x', none⟩ = some (.int .i64 (markAt xs x')) := fun o => (blk_cell (blk_alloc hb3 o) x').trans (marksOf_at xs x' hx10)
          have q2 : ∀ o, (w3.alloc o).frozen? ⟨wA.heap.size, x', none⟩ = false := fun o => blk_frozen (blk_alloc hb3 o) x'
          have HB3 := Lib.hid hb3; have HEN := Lib.hid hen; have HRG3 := Lib.hid hrg3
          have HBQ3 : Hid (Below wA.heap.size wA w3) := HBQ.out.grown hg3 HBQ.out.size (fun j hj => by cases hj; omega)
          have HS3 := Lib.hid hs3; clear hs3 hb3 hrg3
          go_wp2
          have hks := klz_key hir.1 hir.2
          have hgs : ((w3.alloc (.cells #[.int .i64 (x' : Int)] 105))).grownBy ((w3.alloc (.cells #[.int .i64 (x' : Int)] 105)).setCell ⟨wA.heap.size, x', none⟩ (.int .i64 1)) (some wA.heap.size) :=
            ⟨rfl, rfl, rfl, by simp [World.setCell], fun k hk hne => Below.heap_setCell _ _ _ _ (fun e => hne (by rw [e]))⟩
          have hrg6 := (HRG3.out.alloc (.cells #[.int .i64 (x' : Int)] 105)).kept hgs (by simp; omega) (by simp)
          refine ⟨⟨fun z => left z && !z.sameKey (klz x'), cnt3, xs ++ [(x' : Int)], hrg6, ?_, ?_, ?_, ?_⟩, by rw [hrg6.left_eq, HRG.out.left_eq]; exact hlt3⟩
          · have := blk_set (blk_alloc HB3.out (.cells #[.int .i64 (x' : Int)] 105)) x' (.int .i64 1)
            rw [marksOf_snoc xs x' hx10] at this
            exact this
          · intro i hi2
            rcases List.mem_append.1 hi2 with hi2 | hi2
            · have := HX1.out i hi2
              exact ⟨this.1, by show (left (klz i) && _) = false; rw [this.2]; rfl⟩
            · simp only [List.mem_singleton] at hi2
              subst hi2
              exact ⟨hi, by show (left (klz (x' : Int)) && !(klz (x' : Int)).sameKey (klz (x' : Int))) = false; rw [WideAt.sameKey_self hks]; simp⟩
          · intro i hi2 hf
            by_cases he : i = (x' : Int)
            · subst he; exact List.mem_append.2 (.inr (List.mem_singleton.2 rfl))
            · refine List.mem_append.2 (.inl (HX2.out i hi2 ?_))
              have hr2 := HH.out.range i hi2
              have hf2 : (left (klz i) && !(klz i).sameKey (klz (x' : Int))) = false := hf
              cases hsk : (klz i).sameKey (klz (x' : Int))
              · rw [hsk] at hf2; simpa using hf2
              · exact absurd (klz_inj hr2.1 hr2.2 hir.1 hir.2 (WideAt.sameKey_eq hsk)) he
          · exact (HBQ3.out.alloc HBQ3.out.size _).setCell (p := ⟨wA.heap.size, x', none⟩) (Nat.le_refl _) _
end Go.Proofs.Ytmlahfidnfdhbaa.Pr
namespace Go.Proofs.Ytmlahfidnfdhbaa.Pr
open Go.RowKit Go.Proofs.YtmlahfidnfdhbaaW.PrintWords Go.Proofs.YtmlahfidnfdhbaaW.PrintLast Go.Proofs.YtmlahfidnfdhbaaW.PrintMore
set_option maxRecDepth 100000

def upTo (ks : List Int) : Nat → List Int
  | 0 => []
  | k + 1 => if (k : Int) ∈ ks then upTo ks k ++ [(k : Int)] else upTo ks k
theorem upTo_len (ks : List Int) : ∀ k, (upTo ks k).length ≤ k
  | 0 => by simp [upTo]
  | k + 1 => by
    have := upTo_len ks k
    unfold upTo
    split
    · simp; omega
    · omega
theorem upTo_in {ks : List Int} {k : Nat} (h : (k : Int) ∈ ks) : upTo ks (k + 1) = upTo ks k ++ [(k : Int)] := if_pos h
theorem upTo_out {ks : List Int} {k : Nat} (h : ¬ (k : Int) ∈ ks) : upTo ks (k + 1) = upTo ks k := if_neg h
def late_Kept.f (l0 : List (S58)) (a1 : Int) : Option (List Int × Int) := some (if sideErr l0 a1 = 0 then (upTo (keptL l0 (worksOf a1 l0)) l0.length, 0) else ([], sideErr l0 a1))

set_option maxHeartbeats 1000000 in
theorem late_Kept.calls (A0 : Option Addr) (c0 : Nat) (l0 : List (S58)) (a1 : Int) (r1 : List Int) (r2 : Int) (w : World) (hr0 : Kd.C k58 w A0 l0.length l0) (hc0 : l0.length ≤ c0) (h : late_Kept.f l0 a1 = some (r1, r2)) :
    Calls Try.prog 29 #[.slice A0 l0.length c0, .int .i64 a1] w fun e w' => ∃ v0_ : Value, e = .returned (.tuple #[v0_, .int .i64 r2]) ∧ Kd.R (Kd.int .i64) 3 w' w.heap.size (fun _ => True) v0_ r1 ∧ Below w.heap.size w w' := by
  unfold late_Kept.f at h
  injection h with h
  have H := Lib.hid h; clear h
  have hu85 := Try.underlying85
  by_cases h1 : sideErr l0 a1 = 0
  · have hh := H.out
    rw [if_pos h1] at hh
    have h56 := sided_ok A0 c0 l0 a1 w hr0 hc0 h1
    have hlen := checkO_len (sideErr_zero h1).1
    injection hh with e1 e2
    have H1 := Lib.hid e1; have H2 := Lib.hid e2
    clear h1 e1 e2 H
    obtain ⟨kk, hkk⟩ : ∃ kk, kk = keptL l0 (worksOf a1 l0) := ⟨_, rfl⟩
    rw [← hkk] at H1
    have h62 := fun g A1 c1 w hD => kept62 g A0 A1 c0 c1 l0 (worksOf a1 l0) w hD hlen
    rw [← hkk] at h62
    unfold marksOf at h62
    have H62 := Lib.hid h62; clear h62 hkk
    go_enter Try.func29, Try.ntmps29
    go_wp2_with (first
      | (go_at_call 56; refine h56.mono ?_; clear h56; rintro e w1 ⟨g, A1, c1, rfl, hD, hb⟩; have HD := Lib.hid hD; have HB := Lib.hid hb; clear hD hb)
      | (go_at_call 62; refine (H62.out g A1 c1 w1 HD.out).mono ?_; rintro e w2 ⟨rfl, hb2⟩; have HB2 : Hid (Below w.heap.size w w2) := HB.out.trans (hb2.mono HB.out.size); clear hb2))
    obtain ⟨w3, hw3⟩ : ∃ w3 : World, w3 = w2.alloc (.cells (marksOf kk) 85) := ⟨_, rfl⟩
    have hb8 : w3.heap[w2.heap.size]? = some (.cells (marksOf kk) 85) := by rw [hw3]; exact heap_alloc_new _ _
    have HB3 : Hid (Below w.heap.size w w3) := by rw [hw3]; exact HB2.out.alloc HB2.out.size _
    have hw3' : w2.alloc (.cells #[.int .i64 (markAt kk 0), .int .i64 (markAt kk 1), .int .i64 (markAt kk 2), .int .i64 (markAt kk 3), .int .i64 (markAt kk 4), .int .i64 (markAt kk 5), .int .i64 (markAt kk 6), .int .i64 (markAt kk 7), .int .i64 (markAt kk 8), .int .i64 (markAt kk 9)] 85) = w3 := by rw [hw3]; rfl
    rw [hw3']
    clear hw3 hw3'
    have HB8 := Lib.hid hb8; clear hb8
    go_loopw [9, 24] (fun v i wr => ∃ (k : Nat), k ≤ l0.length ∧ i = .int .i64 k ∧ Hid (Kd.R (Kd.int .i64) 3 wr w.heap.size (fun _ => True) v (upTo kk k)) ∧ Hid (upTo kk k = [] → v = .slice none 0 0) ∧ Hid (Below w3.heap.size w3 wr)) (fun _ i _ => l0.length - (intOf i).toNat)
    case atStart =>
      refine ⟨0, Nat.zero_le _, rfl, Kd.R_nil _ _ _ _ _, ?_, Below.refl _ _⟩
      intro _; rfl
    case round =>
      obtain ⟨k, hk, rfl, HR, HN, HBr⟩ := hrel
      by_cases hlt : k < l0.length
      · have hk10 : k < 10 := by omega
        have hb8 := blk_below HB8.out HBr.out
        have q8 := (blk_cell hb8 k).trans (marksOf_at kk k hk10)
        have HUL := Lib.hid (upTo_len kk k)
        by_cases hm : (k : Int) ∈ kk
        · have hmk : markAt kk k = 1 := by unfold markAt; rw [if_pos hm]
          rw [hmk] at q8
          have hu := upTo_in hm
          have HU := Lib.hid hu; clear hu hmk hm
          generalize upTo kk k = xs at *
          by_cases hx0 : xs = []
          · obtain rfl : u9 = .slice none 0 0 := HN.out hx0
            subst hx0
            go_wp2_with ((with_reducible refine gate_builtin (b := .append) (xs := #[.tmp 36, .tmp 38]) rfl ?_); at_builtin; (obtain ⟨i0, hi0, hz0, hz1, hz2⟩ := info_parts info3); refine wpList_append_grows _ rfl (.tmp 36) (.tmp 38) 23 rfl 3 i0 (.int .i64 0) 1 8 Try.underlying23 hi0 hz0 hz1 hz2 rfl (by decide) none 0 0 [] rfl (fun _ => ⟨rfl, rfl⟩) rfl (fun b e => by cases e) ⟨wr.heap.size, 0, none⟩ 1 1 [.int .i64 (k : Int)] rfl rfl (cell_one_new _ _ _) (by simp [Value.oneCell']) (by omega) (by simp [maxLen]) (by omega) ?_; intro v6 w6 hown6 hg6; have HO6 := Lib.hid hown6; have HG6 := Lib.hid hg6; clear hown6 hg6 hi0 hz0 hz1 hz2)
            refine ⟨⟨k + 1, by omega, by go_num, ?_, ?_, ?_⟩, by simp [intOf]; omega⟩
            · rw [HU.out]
              have hR6 := Kd.R_of_own (h1 := fun _ => rfl) (ok := fun _ => True) (xs := ([] : List Int) ++ [(k : Int)]) (enc := Value.int .i64) (by have := HO6.out; simpa [encs] using this) (fun _ _ => trivial)
              exact Kd.R_lower hR6 (by have := HB3.out.size; have := HBr.out.size; simp; omega)
            · rw [HU.out]; intro e; simp at e
            · exact (HBr.out.alloc HBr.out.size _).trans ((below_of_grown_none HG6.out).mono (by have := HBr.out.size; simp; omega))
          · have hpos : 0 < xs.length := List.length_pos_iff.2 hx0
            obtain ⟨gv, cv, rfl, hgv, hgl, _, _⟩ := Kd.R_form HR.out hpos
            have hcc := (Kd.R_reads' HR.out).2
            have HCC := Lib.hid hcc.2
            have hcap : xs.length ≤ cv := hcc.1
            have hxl := HUL.out
            have HX0 := Lib.hid hx0
            have HOLD : Hid (∀ b, some (⟨gv, 0, none⟩ : Addr) = some b → ∀ j u, (encs (Value.int .i64) xs)[j]? = some u → (wr.alloc (.cells #[.int .i64 (k : Int)] 3)).cell? (b.add j) = some u) := by
              intro b e j u hu
              injection e with e
              subst e
              have hjl : j < xs.length := by
                have := (List.getElem?_eq_some_iff.1 hu).1
                simpa [encs] using this
              obtain ⟨ad, e2, hc⟩ := C_cell HCC.out j hjl
              injection e2 with e2
              subst e2
              have hu2 : u = .int .i64 (rd xs j) := by
                rw [rd_get xs j hjl]
                simp [encs, hjl] at hu
                exact hu.symm
              rw [hu2]
              exact cell_al _ hc
            clear hx0 hcc
            go_wp2_with ((with_reducible refine gate_builtin (b := .append) (xs := #[.tmp 36, .tmp 38]) rfl ?_); at_builtin; (obtain ⟨i0, hi0, hz0, hz1, hz2⟩ := info_parts info3); refine wpList_append_grows _ rfl (.tmp 36) (.tmp 38) 23 rfl 3 i0 (.int .i64 0) 1 8 Try.underlying23 hi0 hz0 hz1 hz2 rfl (by decide) (some ⟨gv, 0, none⟩) xs.length xs.length (encs (Value.int .i64) xs) rfl (fun e => by cases e) (by simp [encs]) HOLD.out ⟨wr.heap.size, 0, none⟩ 1 1 [.int .i64 (k : Int)] rfl rfl (cell_one_new _ _ _) (by simp [Value.oneCell']) (by omega) (by simp [maxLen]; omega) (by omega) ?_; intro v6 w6 hown6 hg6; have HO6 := Lib.hid hown6; have HG6 := Lib.hid hg6; clear hown6 hg6 hi0 hz0 hz1 hz2)
            refine ⟨⟨k + 1, by omega, by go_num, ?_, ?_, ?_⟩, by simp [intOf]; omega⟩
            · rw [HU.out]
              have hR6 := Kd.R_of_own (h1 := fun _ => rfl) (ok := fun _ => True) (xs := xs ++ [(k : Int)]) (enc := Value.int .i64) (by have := HO6.out; simpa [encs] using this) (fun _ _ => trivial)
              exact Kd.R_lower hR6 (by have := HB3.out.size; have := HBr.out.size; simp; omega)
            · rw [HU.out]; intro e; simp at e
            · exact (HBr.out.alloc HBr.out.size _).trans ((below_of_grown_none HG6.out).mono (by have := HBr.out.size; simp; omega))
        · have hmk : markAt kk k = 0 := by unfold markAt; rw [if_neg hm]
          rw [hmk] at q8
          have hu := upTo_out hm
          have HU := Lib.hid hu; clear hu hmk hm
          go_wp2
          exact ⟨⟨k + 1, by omega, by go_num, by rw [HU.out]; exact HR, by rw [HU.out]; exact HN, HBr⟩, by simp [intOf]; omega⟩
      · obtain rfl : k = l0.length := by omega
        go_wp2
        go_ret2
        rw [← H1.out, ← H2.out]
        exact ⟨_, rfl, HR.out, HB3.out.trans (HBr.out.mono HB3.out.size)⟩
  · have hh := H.out
    rw [if_neg h1] at hh
    have h56 := sided_err A0 c0 l0 a1 w hr0 hc0 h1
    injection hh with e1 e2
    have H1 := Lib.hid e1; have H2 := Lib.hid e2
    have hz : (sideErr l0 a1 != 0) = true := by simpa using h1
    have hz' : (sideErr l0 a1 == 0) = false := by simpa using h1
    clear h1 e1 e2
    generalize sideErr l0 a1 = q at *
    go_enter Try.func29, Try.ntmps29
    go_wp2_with (go_at_call 56; refine h56.mono ?_; clear h56; rintro e w1 ⟨rfl, hb⟩)
    go_ret2
    rw [← H1.out, ← H2.out]
    exact ⟨_, rfl, Kd.R_nil _ _ _ _ _, hb⟩
end Go.Proofs.Ytmlahfidnfdhbaa.Pr
