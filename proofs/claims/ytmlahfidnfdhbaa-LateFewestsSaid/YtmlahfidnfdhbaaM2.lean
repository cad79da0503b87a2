/- Contracts of the small functions of late: orders sorted, the desk, bounds, ends, delays. -/
import Derived.Test.YtmlahfidnfdhbaaRA
import Derived.Test.YtmlahfidnfdhbaaRC
import Derived.Test.YtmlahfidnfdhbaaA2
import Derived.BigRegion
import Derived.Deep.AppendLies
import Derived.StillTailTactics
import Derived.Deep.RegionLaw
import Derived.Lib.SliceRun
set_option linter.unusedVariables false
set_option linter.unusedSimpArgs false
namespace Go.Proofs.Ytmlahfidnfdhbaa.Pr
open Go.RowKit Go.Proofs.YtmlahfidnfdhbaaW.PrintWords Go.Proofs.YtmlahfidnfdhbaaW.PrintLast

def cmpI (a b : Int) : Int := if a < b then -1 else if b < a then 1 else 0
theorem cmp64_f (a b : Int) : cmp_Compare_int64.f a b = some (cmpI a b) := by
  simp [cmp_Compare_int64.f, cmp_isNaN_int64.f, cmpI]
  split <;> simp_all
  split <;> simp_all

theorem quietD {P : Program} {f : FuncId} {args : Array Value} {w : World} {n : Nat} {v : Value}
    (h : ∀ W, Calls P f args W fun e w' => e = .returned v ∧ Drawn0 W w') : Calls P f args (w.drewN n) fun e w'' => e = .returned v ∧ ∃ m, w'' = w.drewN m :=
  (h _).mono fun _ _ ⟨he, hd⟩ => by
    obtain ⟨m, hm⟩ := hd.out
    exact ⟨he, n + m, by rw [hm, World.drewN_drewN]⟩

set_option maxHeartbeats 400000 in
theorem byDue74 (x y : Nat) (b c : Nat) (A : Option Addr) (l : List S58) (w : World) (hx : x < l.length) (hy : y < l.length)
    (hb : w.cell? ⟨b, 0, none⟩ = some (.slice A l.length c)) (hr : Kd.C k58 w A l.length l) :
    Calls Try.prog 74 #[.int .i64 x, .int .i64 y, .pointer (some ⟨b, 0, none⟩)] w fun e w' => e = .returned (.int .i64 (cmpI (rd_T58 l x).f1 (rd_T58 l y).f1)) ∧ Drawn0 w w' := by
  have hu58 := Try.underlying58
  have hu71 := Try.underlying71
  obtain ⟨ad, rfl, h1, h2, h3⟩ := at_T58 hr x (by omega) (by omega)
  obtain ⟨ad', e', h4, h5, h6⟩ := at_T58 hr y (by omega) (by omega)
  cases e'
  simp only [Int.toNat_natCast] at h1 h2 h3 h4 h5 h6
  go_enter Try.func74, Try.ntmps74
  go_wp2
  go_quiet ((go_at_call 75; exact quietD (fun W => cmp_Compare_int64.calls _ _ _ W (cmp64_f _ _))))
  go_wp2
  go_ret
  exact ⟨rfl, ⟨⟨nq, rfl⟩⟩⟩
end Go.Proofs.Ytmlahfidnfdhbaa.Pr
namespace Go.Proofs.Ytmlahfidnfdhbaa.Pr
open Go.RowKit Go.Proofs.YtmlahfidnfdhbaaW.PrintWords Go.Proofs.YtmlahfidnfdhbaaW.PrintLast

/-! ### insertion, as slices.SortStableFunc does it on fewer than 20 elements -/
def swapAt (xs : List Int) (j : Nat) : List Int := (xs.set (j + 1) (rd xs j)).set j (rd xs (j + 1))
def insDown (cmp : Int → Int → Int) : Nat → List Int → List Int
  | 0, xs => xs
  | j + 1, xs => if cmp (rd xs (j + 1)) (rd xs j) < 0 then insDown cmp j (swapAt xs j) else xs
def insTo (cmp : Int → Int → Int) : Nat → List Int → List Int
  | 0, xs => xs
  | k + 1, xs => insDown cmp k (insTo cmp k xs)
theorem swapAt_len (xs : List Int) (j : Nat) : (swapAt xs j).length = xs.length := by simp [swapAt]
theorem insDown_len (cmp : Int → Int → Int) : ∀ (j : Nat) (xs : List Int), (insDown cmp j xs).length = xs.length
  | 0, _ => rfl
  | j + 1, xs => by
    unfold insDown
    split
    · rw [insDown_len, swapAt_len]
    · rfl
theorem insTo_len (cmp : Int → Int → Int) : ∀ (k : Nat) (xs : List Int), (insTo cmp k xs).length = xs.length
  | 0, _ => rfl
  | k + 1, xs => by unfold insTo; rw [insDown_len, insTo_len]
def AllP (p : Int → Prop) (xs : List Int) : Prop := ∀ x ∈ xs, p x
theorem AllP_rd {p : Int → Prop} {xs : List Int} (h : AllP p xs) (j : Nat) (hj : j < xs.length) : p (rd xs j) := by
  rw [rd_get xs j hj]
  exact h _ (List.getElem_mem hj)
theorem AllP_set {p : Int → Prop} {xs : List Int} (h : AllP p xs) (j : Nat) (x : Int) (hx : p x) : AllP p (xs.set j x) := by
  intro y hy
  rcases List.mem_or_eq_of_mem_set hy with h1 | h1
  · exact h y h1
  · exact h1 ▸ hx
theorem AllP_swap {p : Int → Prop} {xs : List Int} (h : AllP p xs) (j : Nat) (hj : j + 1 < xs.length) : AllP p (swapAt xs j) :=
  AllP_set (AllP_set h _ _ (AllP_rd h j (by omega))) _ _ (AllP_rd h (j + 1) hj)
theorem AllP_insDown {p : Int → Prop} (cmp : Int → Int → Int) : ∀ (j : Nat) (xs : List Int), j < xs.length ∨ j = 0 → AllP p xs → AllP p (insDown cmp j xs)
  | 0, _, _, h => h
  | j + 1, xs, hj, h => by
    unfold insDown
    split
    · exact AllP_insDown cmp j _ (.inl (by rw [swapAt_len]; omega)) (AllP_swap h j (by omega))
    · exact h
theorem AllP_insTo {p : Int → Prop} (cmp : Int → Int → Int) : ∀ (k : Nat) (xs : List Int), k ≤ xs.length → AllP p xs → AllP p (insTo cmp k xs)
  | 0, _, _, h => h
  | k + 1, xs, hk, h => by
    unfold insTo
    exact AllP_insDown cmp k _ (.inl (by rw [insTo_len]; omega)) (AllP_insTo cmp k xs (by omega) h)
theorem insDown_succ_lt (cmp : Int → Int → Int) (j : Nat) (xs : List Int) (h : cmp (rd xs (j + 1)) (rd xs j) < 0) : insDown cmp (j + 1) xs = insDown cmp j (swapAt xs j) := by
  conv => lhs; unfold insDown
  rw [if_pos h]
theorem insDown_succ_ge (cmp : Int → Int → Int) (j : Nat) (xs : List Int) (h : ¬ cmp (rd xs (j + 1)) (rd xs j) < 0) : insDown cmp (j + 1) xs = xs := by
  conv => lhs; unfold insDown
  rw [if_neg h]

/-- What a comparing closure is asked: it draws at most. -/
def CmpF (g : Nat) (caps : Array Value) (w : World) (row : Option Nat) (p : Int → Prop) (cmp : Int → Int → Int) : Prop :=
  ∀ x y W, p x → p y → w.grownBy W row → Calls Try.prog g (#[.int .i64 x, .int .i64 y] ++ caps) W fun e W' => e = .returned (.int .i64 (cmp x y)) ∧ Drawn0 W W'

theorem grown_drawn {w W W' : World} {row : Option Nat} (h : w.grownBy W row) (hd : Drawn0 W W') : w.grownBy W' row := by
  obtain ⟨n, rfl⟩ := hd.out
  exact h.trans ⟨rfl, rfl, rfl, by simp, fun k _ _ => by simp⟩

theorem grown_set (w : World) (b o : Nat) (v : Value) : w.grownBy (w.setCell ⟨b, o, none⟩ v) (some b) :=
  ⟨rfl, rfl, rfl, by simp [World.setCell], fun k _ hne => Below.heap_setCell _ _ _ _ (fun e => hne (by rw [e]))⟩

set_option maxHeartbeats 1000000 in
theorem insSort89 (g : Nat) (caps : Array Value) (b cap base : Nat) (ok : Nat → Prop) (xs : List Int) (w : World) (p : Int → Prop) (cmp : Int → Int → Int) (hg0 : EntersF g)
    (hn : 0 < xs.length) (hcmp : CmpF g caps w (some b) p cmp) (hp : AllP p xs)
    (hR : Kd.R (Kd.int .i64) 3 w base ok (.slice (some ⟨b, 0, none⟩) xs.length cap) xs) :
    Calls Try.prog 89 #[.slice (some ⟨b, 0, none⟩) xs.length cap, .int .i64 0, .int .i64 xs.length, .func (.func g) #[] caps] w fun e w' => e = .returned (.tuple #[]) ∧
      Kd.R (Kd.int .i64) 3 w' base ok (.slice (some ⟨b, 0, none⟩) xs.length cap) (insTo cmp xs.length xs) ∧ w.grownBy w' (some b) := by
  have hg : ∀ (xs : Array Value) (W : World), (callFunc g xs).run Try.prog W = .ok (.enter g xs) W := hg0
  have hmax : xs.length ≤ 9223372036854775807 := by
    obtain ⟨A, c, he, hle, hC⟩ := Kd.R_reads hR
    exact hC.2.1
  have Hcmp := Lib.hid hcmp; clear hcmp
  have Hp := Lib.hid hp; clear hp
  have HR := Lib.hid hR; clear hR
  go_enter Try.func89, Try.ntmps89
  go_wp2
  go_loopw [8] (fun i wr => ∃ k : Nat, 1 ≤ k ∧ k ≤ xs.length ∧ i = .int .i64 k ∧ Hid (Kd.R (Kd.int .i64) 3 wr base ok (.slice (some ⟨b, 0, none⟩) xs.length cap) (insTo cmp k xs)) ∧ Hid (w.grownBy wr (some b))) (fun i _ => xs.length - (intOf i).toNat)
  case atStart =>
    refine ⟨1, Nat.le_refl _, by omega, rfl, ?_, ?_⟩
    · exact HR.out
    · exact ⟨rfl, rfl, rfl, Nat.le_refl _, fun _ _ _ => rfl⟩
  case round =>
    obtain ⟨k, hk1, hk, rfl, HR1, HG⟩ := hrel
    by_cases hlt : k < xs.length
    · obtain ⟨wo, rfl⟩ : ∃ wo : World, wo = wr := ⟨_, rfl⟩
      go_wp2
      go_loopw [9] (fun j wr => ∃ (i : Nat) (ys : List Int), i ≤ k ∧ j = .int .i64 i ∧ Hid (Kd.R (Kd.int .i64) 3 wr base ok (.slice (some ⟨b, 0, none⟩) xs.length cap) ys) ∧ Hid (w.grownBy wr (some b)) ∧ Hid (AllP p ys) ∧ Hid (ys.length = xs.length) ∧ Hid (insDown cmp i ys = insTo cmp (k + 1) xs)) (fun j _ => (intOf j).toNat)
      case atStart =>
        refine ⟨k, insTo cmp k xs, Nat.le_refl _, rfl, HR1, HG, ?_, ?_, ?_⟩
        · exact AllP_insTo cmp k xs hk Hp.out
        · exact insTo_len cmp k xs
        · rfl
      case round =>
        obtain ⟨i, ys, hi, rfl, HR2, HG2, HP2, HL2, HE2⟩ := hrel
        cases i with
        | zero =>
          have hd : decide ((0 : Int) < 0) = false := by decide
          go_wp2
          go_quiet (fail)
          go_wp2
          refine ⟨⟨k + 1, by omega, by omega, by go_num, ?_, ?_⟩, by simp [intOf]; omega⟩
          · rw [← HE2.out]; exact Kd.R_drewN HR2.out _
          · exact grown_drawn HG2.out ⟨⟨nq, rfl⟩⟩
        | succ i =>
          obtain ⟨hc1, hf1⟩ := Kd.R_celln (0 : Int) HR2.out ((i + 1 : Nat) : Int) (by omega) (by omega)
          obtain ⟨hc0, hf0⟩ := Kd.R_celln (0 : Int) HR2.out (i : Int) (by omega) (by omega)
          have hcall := Hcmp.out (rd ys (i + 1)) (rd ys i) wr (AllP_rd HP2.out (i + 1) (by rw [HL2.out]; omega)) (AllP_rd HP2.out i (by rw [HL2.out]; omega)) HG2.out
          have hcs : ∀ n, Calls Try.prog g (#[.int .i64 (rd ys (i + 1)), .int .i64 (rd ys i)] ++ caps) (wr.drewN n) fun e W' => e = .returned (.int .i64 (cmp (rd ys (i + 1)) (rd ys i))) ∧ ∃ m, W' = wr.drewN m := fun n =>
            (Hcmp.out (rd ys (i + 1)) (rd ys i) (wr.drewN n) (AllP_rd HP2.out (i + 1) (by rw [HL2.out]; omega)) (AllP_rd HP2.out i (by rw [HL2.out]; omega)) (grown_drawn HG2.out ⟨⟨n, rfl⟩⟩)).mono fun e W' ⟨he, hd⟩ => ⟨he, by obtain ⟨m, hm⟩ := hd.out; exact ⟨n + m, by rw [hm, World.drewN_drewN]⟩⟩
          replace hc1 : wr.cell? ⟨b, i + 1, none⟩ = some (.int .i64 (rd ys (i + 1))) := hc1
          replace hc0 : wr.cell? ⟨b, i, none⟩ = some (.int .i64 (rd ys i)) := hc0
          replace hf1 : wr.frozen? ⟨b, i + 1, none⟩ = false := hf1
          replace hf0 : wr.frozen? ⟨b, i, none⟩ = false := hf0
          have HLt := Lib.hid (insDown_succ_lt cmp i ys)
          have HGe := Lib.hid (insDown_succ_ge cmp i ys)
          have HSw : Hid (swapAt ys i = (ys.set (i + 1) (rd ys i)).set i (rd ys (i + 1))) := rfl
          clear hcall
          generalize hx1 : rd ys (i + 1) = x1 at *
          generalize hx0 : rd ys i = x0 at *
          have Hx1 := Lib.hid hx1; clear hx1
          have Hx0 := Lib.hid hx0; clear hx0
          generalize hq : cmp x1 x0 = q at *
          have Hq := Lib.hid hq; clear hq
          have Hcs := Lib.hid hcs; clear hcs
          have hpos : decide ((0 : Int) < ((i : Int) + 1)) = true := decide_eq_true (by omega)
          by_cases hq0 : q < 0
          · go_wp2
            go_quiet ((exact Hcs.out _))
            go_wp2
            generalize hwq : wr.drewN nq = wq at *
            have hc1' : wq.cell? ⟨b, i + 1, none⟩ = some (.int .i64 x1) := by rw [← hwq]; exact hc1
            have hc0' : wq.cell? ⟨b, i, none⟩ = some (.int .i64 x0) := by rw [← hwq]; exact hc0
            have hf1' : wq.frozen? ⟨b, i + 1, none⟩ = false := by rw [← hwq]; exact hf1
            have hf0' : wq.frozen? ⟨b, i, none⟩ = false := by rw [← hwq]; exact hf0
            have HWq := Lib.hid hwq; clear hwq
            go_region
            go_wp2
            have hRq : Kd.R (Kd.int .i64) 3 wq base ok (.slice (some ⟨b, 0, none⟩) xs.length cap) ys := by rw [← HWq.out]; exact Kd.R_drewN HR2.out _
            have hGq : w.grownBy wq (some b) := by rw [← HWq.out]; exact grown_drawn HG2.out ⟨⟨nq, rfl⟩⟩
            have hR3 := Kd.R_putn (h1 := fun _ => rfl) (Kd.R_putn (h1 := fun _ => rfl) hRq ((i + 1 : Nat) : Int) x0) ((i : Nat) : Int) x1
            refine ⟨⟨i, swapAt ys i, by omega, rfl, ?_, ?_, ?_, ?_, ?_⟩, by simp [intOf]⟩
            · rw [HSw.out]
              exact Kd.R_drew hR3
            · exact (hGq.trans (grown_set _ _ _ _)).trans (grown_set _ _ _ _) |>.trans ⟨rfl, rfl, rfl, Nat.le_refl _, fun _ _ _ => rfl⟩
            · exact AllP_swap HP2.out i (by rw [HL2.out]; omega)
            · show _ = _
              rw [swapAt_len]
              exact HL2.out
            · exact (HLt.out hq0).symm.trans HE2.out
          · have hq1 : decide (q < 0) = false := by simpa using hq0
            go_wp2
            go_quiet ((exact Hcs.out _))
            go_wp2
            refine ⟨⟨k + 1, by omega, by omega, by go_num, ?_, ?_⟩, by simp [intOf]; omega⟩
            · rw [← HE2.out, HGe.out (by omega)]
              exact Kd.R_drewN HR2.out _
            · exact grown_drawn HG2.out ⟨⟨nq, rfl⟩⟩
    · go_wp2
      go_end0
      obtain rfl : k = xs.length := by omega
      exact ⟨rfl, HR1.out, HG.out⟩
set_option maxHeartbeats 400000 in
theorem stable85 (g : Nat) (caps : Array Value) (b cap base : Nat) (ok : Nat → Prop) (xs : List Int) (w : World) (p : Int → Prop) (cmp : Int → Int → Int) (hg0 : EntersF g)
    (hn : 0 < xs.length) (hn2 : xs.length < 20) (hcmp : CmpF g caps w (some b) p cmp) (hp : AllP p xs)
    (hR : Kd.R (Kd.int .i64) 3 w base ok (.slice (some ⟨b, 0, none⟩) xs.length cap) xs) :
    Calls Try.prog 85 #[.slice (some ⟨b, 0, none⟩) xs.length cap, .int .i64 xs.length, .func (.func g) #[] caps] w fun e w' => e = .returned (.tuple #[]) ∧
      Kd.R (Kd.int .i64) 3 w' base ok (.slice (some ⟨b, 0, none⟩) xs.length cap) (insTo cmp xs.length xs) ∧ w.grownBy w' (some b) := by
  have hc := Lib.hid (insSort89 g caps b cap base ok xs w p cmp hg0 hn hcmp hp hR)
  clear hcmp hp hR hg0
  go_enter Try.func85, Try.ntmps85
  go_wp2
  refine wp_loop_rounds 1 ?_
  rw [rounds_succ]
  go_wp2_with (go_at_call 89; refine hc.out.mono ?_; rintro e w' ⟨rfl, hR1, hG1⟩; have HR1 := Lib.hid hR1; clear hR1)
  refine wp_loop_rounds 1 ?_
  rw [rounds_succ]
  go_wp2
  go_end0
  exact ⟨rfl, HR1.out, hG1⟩

set_option maxHeartbeats 400000 in
theorem sortStable73 (g : Nat) (caps : Array Value) (b cap base : Nat) (ok : Nat → Prop) (xs : List Int) (w : World) (p : Int → Prop) (cmp : Int → Int → Int) (hg0 : EntersF g)
    (hn : 0 < xs.length) (hn2 : xs.length < 20) (hcmp : CmpF g caps w (some b) p cmp) (hp : AllP p xs)
    (hR : Kd.R (Kd.int .i64) 3 w base ok (.slice (some ⟨b, 0, none⟩) xs.length cap) xs) :
    Calls Try.prog 73 #[.slice (some ⟨b, 0, none⟩) xs.length cap, .func (.func g) #[] caps] w fun e w' => e = .returned (.tuple #[]) ∧
      Kd.R (Kd.int .i64) 3 w' base ok (.slice (some ⟨b, 0, none⟩) xs.length cap) (insTo cmp xs.length xs) ∧ w.grownBy w' (some b) := by
  have hc := Lib.hid (stable85 g caps b cap base ok xs w p cmp hg0 hn hn2 hcmp hp hR)
  clear hcmp hp hR hg0
  go_enter Try.func73, Try.ntmps73
  go_wp2_with (go_at_call 85; refine hc.out.mono ?_; rintro e w' ⟨rfl, hR1, hG1⟩; have HR1 := Lib.hid hR1; clear hR1)
  go_end0
  exact ⟨rfl, HR1.out, hG1⟩

set_option maxHeartbeats 400000 in
theorem sortNone73 (g : Nat) (caps : Array Value) (A : Option Addr) (c : Nat) {w : World} :
    Calls Try.prog 73 #[.slice A 0 c, .func (.func g) #[] caps] w fun e w' => e = .returned (.tuple #[]) ∧ w = w' := by
  have h89 : Calls Try.prog 89 #[.slice A 0 c, .int .i64 0, .int .i64 0, .func (.func g) #[] caps] w fun e w' => e = .returned (.tuple #[]) ∧ w = w' := by
    go_enter Try.func89, Try.ntmps89
    go_wp2
    refine wp_loop_rounds 1 ?_
    rw [rounds_succ]
    go_wp2
    go_end0
    exact ⟨rfl, rfl⟩
  have h85 : Calls Try.prog 85 #[.slice A 0 c, .int .i64 0, .func (.func g) #[] caps] w fun e w' => e = .returned (.tuple #[]) ∧ w = w' := by
    go_enter Try.func85, Try.ntmps85
    go_wp2
    refine wp_loop_rounds 1 ?_
    rw [rounds_succ]
    go_wp2_with (go_at_call 89; refine h89.mono ?_; rintro e w' ⟨rfl, rfl⟩)
    refine wp_loop_rounds 1 ?_
    rw [rounds_succ]
    go_wp2
    go_end0
    exact ⟨rfl, rfl⟩
  go_enter Try.func73, Try.ntmps73
  go_wp2_with (go_at_call 85; refine h85.mono ?_; rintro e w' ⟨rfl, rfl⟩)
  go_end0
  exact ⟨rfl, rfl⟩

/-! ### byDue -/
def dueCmp (l : List S58) (x y : Int) : Int := cmpI (rd_T58 l x).f1 (rd_T58 l y).f1
def iota (n : Nat) : List Int := (List.range n).map (fun (i : Nat) => (i : Int))
def byDueL (l : List S58) : List Int := insTo (dueCmp l) l.length (iota l.length)
theorem iota_len (n : Nat) : (iota n).length = n := by simp [iota]
theorem iota_succ (n : Nat) : iota (n + 1) = iota n ++ [(n : Int)] := by simp [iota, List.range_succ]

theorem enters74 : EntersF 74 := fun _ _ => by kernel_rfl
theorem info3' : (Try.prog.info? 3).map (fun i => (i.zero, i.size, i.bytes)) = some (some (.int .i64 0), 1, 8) := by kernel_rfl

set_option maxRecDepth 100000 in
set_option maxHeartbeats 400000 in
theorem byDue52 (A : Option Addr) (c : Nat) (l : List S58) (w : World) (hn : l.length < 20) (hr : Kd.C k58 w A l.length l) :
    Calls Try.prog 52 #[.agg #[.slice A l.length c]] w fun e w' => ∃ v, e = .returned v ∧ Kd.R (Kd.int .i64) 3 w' w.heap.size (fun _ => True) v (byDueL l) ∧ Below w.heap.size w w' := by
  have hu71 := Try.underlying71
  go_enter Try.func52, Try.ntmps52
  go_wp2
  go_loopw [3, 8] (fun v i wr => ∃ k : Nat, k ≤ l.length ∧ i = .int .i64 k ∧ Hid (Kd.R (Kd.int .i64) 3 wr (w.heap.size + 1) (fun _ => True) v (iota k)) ∧ Hid (Below (w.heap.size + 1) (w.alloc (.cells #[.slice A l.length c] 71)) wr)) (fun _ i _ => l.length - (intOf i).toNat)
  case atStart =>
    refine ⟨0, Nat.zero_le _, rfl, ?_, ?_⟩
    · exact Kd.R_nil _ _ _ _ _
    · exact Below.refl _ _
  case round =>
    obtain ⟨k, hk, rfl, HR, HB⟩ := hrel
    by_cases hlt : k < l.length
    · go_wp2_with (first | ((with_reducible refine gate_builtin (b := .append) (xs := #[.tmp 11, .tmp 13]) rfl ?_); at_builtin; refine Kd.R_append (Kd.int .i64) (w0 := w.alloc (.cells #[.slice A l.length c] 71)) (w.heap.size + 1) rfl (.tmp 11) (.tmp 13) 23 3 (.int .i64 0) 8 rfl Try.underlying23 info3 rfl (by decide) (by omega) u3 (iota k) (k : Int) [.int .i64 k] (fun _ => True) (fun _ => False) rfl rfl ?aP (fun _ hk => hk.elim) ?aF ?aO ?aB ?aS ?aL ?_; (case aP => exact rfl); (case aF => exact fun _ _ => trivial); (case aO => exact HR.out); (case aB => exact HB.out); (case aS => have := HB.out.size; simp at this; omega); (case aL => rw [iota_len]; omega); intro v1 w1 ho hb hg hat; have HO := Lib.hid ho; have HB1 := Lib.hid hb; clear ho hb hg hat))
      exact ⟨⟨k + 1, by omega, by go_num, by rw [iota_succ]; exact HO.out, HB1.out⟩, by simp [intOf]; omega⟩
    · obtain rfl : k = l.length := by omega
      have HL := Lib.hid (iota_len l.length)
      rcases Nat.eq_zero_or_pos l.length with h0 | h0
      · obtain ⟨A3, c3, rfl⟩ := Kd.R_slice HR.out
        have hz : (iota l.length).length = 0 := by rw [iota_len, h0]
        rw [hz]
        have HZ := Lib.hid h0
        clear h0 hz
        go_wp2_with (go_at_call 73; refine (sortNone73 _ _ _ _).mono ?_; rintro e w' ⟨rfl, rfl⟩)
        go_ret
        refine ⟨_, rfl, ?_, ?_⟩
        · have h1 := HR.out
          unfold byDueL
          rw [HZ.out] at h1 ⊢
          exact Kd.R_lower h1 (by omega)
        · exact ((Below.refl _ w).alloc (Nat.le_refl _) _).trans (HB.out.mono (by omega))
      · obtain ⟨b3, c3, rfl, hb3, hlt3, _⟩ := Kd.R_form HR.out (by rw [iota_len]; exact h0)
        rw [HL.out]
        have hcmp : CmpF 74 #[.pointer (some ⟨w.heap.size, 0, none⟩)] wr (some b3) (fun x => 0 ≤ x ∧ x < l.length) (dueCmp l) := by
          intro x y W hx hy hW
          obtain ⟨x, rfl⟩ := Int.eq_ofNat_of_zero_le hx.1
          obtain ⟨y, rfl⟩ := Int.eq_ofNat_of_zero_le hy.1
          have hbW : Below (w.heap.size + 1) (w.alloc (.cells #[.slice A l.length c] 71)) W := HB.out.grown hW (by have := HB.out.size; simp at this; omega) (fun k e => by cases e; omega)
          exact byDue74 x y w.heap.size c A l W (by omega) (by omega) ((hbW.cell (p := ⟨w.heap.size, 0, none⟩) (by simp)).trans (by go_simp))
            (Kd.C_below hr (((Below.refl _ w).alloc (Nat.le_refl _) _).trans (hbW.mono (by omega))))
        have hc := sortStable73 74 #[.pointer (some ⟨w.heap.size, 0, none⟩)] b3 c3 _ _ (iota l.length) wr (fun x => 0 ≤ x ∧ x < l.length) (dueCmp l) enters74 (by rw [iota_len]; exact h0) (by rw [iota_len]; exact hn) hcmp
          (by intro x hx; simp [iota] at hx; obtain ⟨a, ha, rfl⟩ := hx; exact ⟨by omega, by omega⟩) (by rw [iota_len]; have := HR.out; rw [iota_len] at this; exact this)
        rw [iota_len] at hc
        clear hcmp
        go_wp2_with (go_at_call 73; refine hc.mono ?_; rintro e w' ⟨rfl, hR, hG⟩; have HR9 := Lib.hid hR; have HG9 := Lib.hid hG; clear hR hG)
        go_ret
        refine ⟨_, rfl, Kd.R_lower HR9.out (by omega), ?_⟩
        exact ((Below.refl _ w).alloc (Nat.le_refl _) _).trans ((HB.out.grown HG9.out (by have := HB.out.size; simp at this; omega) (fun k e => by cases e; omega)).mono (by omega))
end Go.Proofs.Ytmlahfidnfdhbaa.Pr
namespace Go.Proofs.Ytmlahfidnfdhbaa.Pr
open Go.RowKit Go.Proofs.YtmlahfidnfdhbaaW.PrintWords Go.Proofs.YtmlahfidnfdhbaaW.PrintLast

theorem frz_keep {W : World} {o : Obj} {n i : Nat} (hn : n < W.heap.size) (h : W.frozen? ⟨n, i, none⟩ = false) : (W.alloc o).drew.frozen? ⟨n, i, none⟩ = false :=
  ((((Below.refl W.heap.size W).alloc (Nat.le_refl _) o).drew).frozen (p := ⟨n, i, none⟩) hn).trans h

/-- The work of an order on a side (0 or 1). -/
def workOf (side : Int) (x : S58) : Int := if side = 0 then x.f0.f0 else x.f0.f1
def worksOf (side : Int) (l : List S58) : List Int := l.map (workOf side)

/-- A desk: orders and work. -/
structure IsDesk (W : World) (g : Nat) (A : Option Addr) (c : Nat) (l : List S58) (A1 : Option Addr) (c1 : Nat) (ws : List Int) : Prop where
  o : W.cell? ⟨g, 0, none⟩ = some (.slice A l.length c)
  k : W.cell? ⟨g, 1, none⟩ = some (.slice A1 l.length c1)
  ho : Kd.C k58 W A l.length l
  hk : Kd.C (Kd.int .i64) W A1 l.length ws
  hcap : l.length ≤ c1

theorem IsDesk.below {W W1 : World} {g : Nat} {A : Option Addr} {c : Nat} {l : List S58} {A1 : Option Addr} {c1 : Nat} {ws : List Int} (h : IsDesk W g A c l A1 c1 ws) (hb : Below W.heap.size W W1) : IsDesk W1 g A c l A1 c1 ws :=
  ⟨pw_cell_below hb h.o, pw_cell_below hb h.k, Kd.C_below h.ho hb, Kd.C_below h.hk hb, h.hcap⟩

set_option maxRecDepth 100000 in
set_option maxHeartbeats 1000000 in
theorem newDesk51 (side : Int) (hs : side = 0 ∨ side = 1) (A : Option Addr) (c : Nat) (l : List S58) (w : World) (hn : l.length < 20) (hr : Kd.C k58 w A l.length l) :
    Calls Try.prog 51 #[.slice A l.length c, .int .i64 side] w fun e w' => ∃ g A1 c1, e = .returned (.pointer (some ⟨g, 0, none⟩)) ∧ IsDesk w' g A c l A1 c1 (worksOf side l) ∧ Below w.heap.size w w' := by
  have hu71 := Try.underlying71
  have hu73 := Try.underlying73
  have hu58 := Try.underlying58
  have hu56 := Try.underlying56
  have hu97 := Try.underlying97
  have hs0 : 0 ≤ side := by omega
  have hs1 : side < 2 := by omega
  go_enter Try.func51, Try.ntmps51
  go_wp2
  go_loopw [18] (fun i wr => ∃ (k : Nat) (v : Value), k ≤ l.length ∧ i = .int .i64 k ∧ Hid (Kd.R (Kd.int .i64) 2 wr (w.heap.size + 1) (fun _ => True) v (worksOf side (l.take k))) ∧ Hid (Below w.heap.size w wr) ∧
     Hid (wr.heap[w.heap.size]? = some (.cells #[.slice A l.length c, v] 73))) (fun i _ => l.length - (intOf i).toNat)
  case atStart =>
    refine ⟨0, .slice none 0 0, Nat.zero_le _, rfl, ?_, ?_, ?_⟩
    · exact Kd.R_nil _ _ _ _ _
    · exact (Below.refl _ w).alloc (Nat.le_refl _) _
    · exact heap_alloc_new _ _
  case round =>
    obtain ⟨k, v, hk, rfl, HR, HB, HD⟩ := hrel
    by_cases hlt : k < l.length
    · obtain ⟨ad, rfl, h1, h2, h3⟩ := at_T58 (Kd.C_below hr HB.out) k (by omega) (by omega)
      simp only [Int.toNat_natCast] at h1 h2 h3
      have hz : w.heap.size + 1 ≤ wr.heap.size := (Array.getElem?_eq_some_iff.1 HD.out).1
      have d0 : wr.cell? ⟨w.heap.size, 0, none⟩ = some (.slice (some ad) l.length c) := by have := HD.out; simp [World.cell?, this]
      have d1 : wr.cell? ⟨w.heap.size, 1, none⟩ = some v := by have := HD.out; simp [World.cell?, this]
      have f1 : wr.frozen? ⟨w.heap.size, 1, none⟩ = false := by have := HD.out; simp [World.frozen?, this]
      have hwk : worksOf side (l.take (k + 1)) = worksOf side (l.take k) ++ [if side = 0 then (rd_T58 l k).f0.f0 else (rd_T58 l k).f0.f1] := by
        rw [List.take_succ_eq_append_getElem hlt, worksOf, List.map_append, ← rdT_get l k hlt]
        rfl
      have hlk : (worksOf side (l.take (k + 1))).length = k + 1 := by simp [worksOf]; omega
      have HWK := Lib.hid hwk; have HLK := Lib.hid hlk; clear hwk hlk
      have hown := Kd.own_of_R HR.out
      have hlen : (worksOf side (l.take k)).length = k := by simp [worksOf]; omega
      rw [hlen] at hown
      have hov : v.ownBlock ≠ some w.heap.size := fun e => by have := Kd.R_base HR.out _ e; omega
      have hnb : v.ownBlock ≠ some wr.heap.size := fun e => by have := Kd.R_lt HR.out _ e; omega
      obtain ⟨i0, hi0, hz0, hz1, hz2⟩ := info_parts info2
      have hidx : ∀ (x y : Int) (W : World), (Instr.index 97 (.agg #[.int .i64 x, .int .i64 y]) (.int .i64 side)).run Try.prog W = .ok (.int .i64 (if side = 0 then x else y)) W := by
        rcases hs with rfl | rfl <;> exact fun _ _ _ => by kernel_rfl
      go_wp2
      obtain ⟨W1, hW1⟩ : ∃ W1, W1 = wr.alloc (.cells #[.int .i64 (rd_T58 l k).f0.f0, .int .i64 (rd_T58 l k).f0.f1, .int .i64 (rd_T58 l k).f1] 58) := ⟨_, rfl⟩
      have hownW : W1.ownsRow (w.heap.size + 1) 2 1 v k (encs (Value.int .i64) (worksOf side (l.take k))) := by rw [hW1]; exact hown.alloc _
      have hD1 : W1.heap[w.heap.size]? = some (.cells #[.slice (some ad) l.length c, v] 73) := by rw [hW1]; exact (Below.heap_alloc _ _ _ (by omega)).trans HD.out
      have HD1 := Lib.hid hD1
      have hB1 : Below w.heap.size w W1 := by rw [hW1]; exact HB.out.alloc (by omega) _
      have HB1 := Lib.hid hB1; clear hB1
      have e1 : W1.cell? ⟨w.heap.size, 1, none⟩ = some v := by simp [World.cell?, hD1]
      have ef : W1.frozen? ⟨w.heap.size, 1, none⟩ = false := by simp [World.frozen?, hD1]
      clear hD1
      have hsz1 : W1.heap.size = wr.heap.size + 1 := by rw [hW1]; simp
      have hle1 : w.heap.size + 1 ≤ W1.heap.size := by omega
      have hle2 : wr.heap.size + 1 ≤ W1.heap.size := by omega
      have HS1 := Lib.hid hsz1; clear hsz1
      have b0 : W1.cell? ⟨wr.heap.size, 0, none⟩ = some (.int .i64 (rd_T58 l k).f0.f0) := by rw [hW1]; go_simp
      have b1 : W1.cell? ⟨wr.heap.size, 1, none⟩ = some (.int .i64 (rd_T58 l k).f0.f1) := by rw [hW1]; go_simp
      rw [← hW1]
      have HW1 := Lib.hid hW1; clear hW1
      have e1a : ∀ o, (W1.alloc o).cell? ⟨w.heap.size, 1, none⟩ = some v := fun o => (World.cell?_alloc_lt _ _ _ (World.block_lt_of_cell? _ _ e1)).trans e1
      go_region_law (refine step_append_lies _ (by rfl) _ _ _ (by rfl) (w.heap.size + 1) 2 i0 _ 1 8 Try.underlying24 hi0 hz0 hz1 hz2 rfl (by omega) v k _ (by rfl) ((hownW.alloc _).drew) ⟨W1.heap.size, 0, none⟩ 1 1 [.int .i64 (if side = 0 then (rd_T58 l k).f0.f0 else (rd_T58 l k).f0.f1)] (by rfl) (by rfl) (World.news_of_block (cs := #[.int .i64 (if side = 0 then (rd_T58 l k).f0.f0 else (rd_T58 l k).f0.f1)]) (t := 2) (fr := (0, 0)) (heap_alloc_new _ _)) (by simp [Value.oneCell']) (by omega) (by simp [maxLen]; omega) (by omega) (by simp; omega) (W1.heap.size + 1) (by simp) ?_; intro gg cap w1 hown1 hgrow hat hltg; have q1 : w1.cell? ⟨w.heap.size, 1, none⟩ = some v := (hgrow.cell_far _ (by simp; omega) (Ne.symm hov)).trans ((World.cell?_alloc_lt _ _ _ (World.block_lt_of_cell? _ _ e1)).trans e1); have q2 : w1.frozen? ⟨w.heap.size, 1, none⟩ = false := (hgrow.frozen_far _ (by simp; omega) (Ne.symm hov)).trans (frz_keep (by omega) ef))
      all_goals
        go_wp2
        refine ⟨⟨k + 1, .slice (some ⟨gg, 0, none⟩) (k + 1) cap, by omega, by go_num, ?_, ?_, ?_⟩, by simp [intOf]; omega⟩
        · refine (Kd.R_of_own (ok := fun _ => True) (enc := Value.int .i64) (h1 := fun _ => rfl) ?_ (fun _ _ => trivial) : Kd.R (Kd.int .i64) _ _ _ _ _ _)
          rw [HLK.out, HWK.out, encs_append]
          exact ownsRow_setCell_below hown1 (by simp) _
        · exact ((((HB1.out.alloc (by omega) _).drew).grown hgrow (by simp; omega) (fun q e => Nat.le_of_succ_le (Kd.R_base HR.out q e))).setCell (p := ⟨w.heap.size, 1, none⟩) (Nat.le_refl _) _)
        · exact blk_put (blk_grown (blk_drew (blk_alloc HD1.out _)) hgrow (Ne.symm hov)) 1 _ rfl
    · obtain rfl : k = l.length := by omega
      go_wp2
      go_ret
      have hR := HR.out
      rw [List.take_length] at hR
      obtain ⟨A1, c1, rfl, hc1, hC1⟩ := Kd.R_reads hR
      have hwl : (worksOf side l).length = l.length := by simp [worksOf]
      rw [hwl] at hC1 HD
      have hD := HD.out
      exact ⟨w.heap.size, A1, c1, rfl, ⟨by simp [World.cell?, hD], by simp [World.cell?, hD], Kd.C_below hr HB.out, hC1, by omega⟩, HB.out⟩
end Go.Proofs.Ytmlahfidnfdhbaa.Pr
namespace Go.Proofs.Ytmlahfidnfdhbaa.Pr
open Go.RowKit Go.Proofs.YtmlahfidnfdhbaaW.PrintWords Go.Proofs.YtmlahfidnfdhbaaW.PrintLast

def checkO (l : List S58) : Int := if 10 < l.length then 6 else if l.any (fun x => oddO x.f0.f0 x.f0.f1 x.f1) then 3 else 0
theorem checkO_f (l : List S58) : late_CheckOrders.f l = some (checkO l) := rfl
theorem checkO_len {l : List S58} (h : checkO l = 0) : l.length ≤ 10 := by
  unfold checkO at h
  split at h
  · omega
  · omega
def sideErr (l : List S58) (side : Int) : Int := if checkO l = 0 then (if within_ 0 1 [side] = true then 0 else 2) else checkO l
theorem sideErr_zero {l : List S58} {side : Int} (h : sideErr l side = 0) : checkO l = 0 ∧ (side = 0 ∨ side = 1) ∧ within_ 0 1 [side] = true := by
  unfold sideErr at h
  split at h
  · rename_i h1
    split at h
    · rename_i h2
      refine ⟨h1, ?_, h2⟩
      simp [within_] at h2
      omega
    · omega
  · omega

set_option maxHeartbeats 400000 in
theorem sided_err (A : Option Addr) (c : Nat) (l : List S58) (side : Int) (w : World) (hr : Kd.C k58 w A l.length l) (hc : l.length ≤ c) (h : sideErr l side ≠ 0) :
    Calls Try.prog 56 #[.slice A l.length c, .int .i64 side] w fun e w' => e = .returned (.tuple #[.pointer none, .int .i64 (sideErr l side)]) ∧ Below w.heap.size w w' := by
  have h14 := late_CheckOrders.calls A c l (checkO l) w hr hc rfl
  unfold sideErr at *
  by_cases h1 : checkO l = 0
  · rw [if_pos h1] at *
    rw [h1] at h14
    have h2 : within_ 0 1 [side] = false := by
      cases hq : within_ 0 1 [side]
      · rfl
      · simp [hq] at h
    have H2 := Lib.hid h2
    clear h h1
    rw [h2]
    clear h2
    go_enter Try.func56, Try.ntmps56
    go_wp2_with (go_at_call 14; refine h14.mono ?_; clear h14; rintro e w' ⟨rfl, hb⟩)
    have h42 : Calls Try.prog 42 #[.int .i64 0, .int .i64 1, .slice (some ⟨w'.heap.size, 0, none⟩) 1 1] _ _ := late_within.calls 0 1 (some ⟨w'.heap.size, 0, none⟩) 1 [side] false _ (C_lit w' 2 _ [side] #[.int .i64 side] rfl rfl (by simp)) (by simp) (congrArg some H2.out)
    go_wp2_with (go_at_call 42; refine h42.mono ?_; clear h42; rintro e w2 ⟨rfl, hb2⟩)
    go_ret2
    exact ⟨rfl, (hb.alloc hb.size _).trans (hb2.mono (by have := hb.size; simp; omega))⟩
  · rw [if_neg h1] at *
    have hz : (checkO l == 0) = false := by simpa using h1
    have hz' : (checkO l != 0) = true := by simpa using h1
    clear h h1
    generalize checkO l = q at *
    go_enter Try.func56, Try.ntmps56
    go_wp2_with (go_at_call 14; refine h14.mono ?_; clear h14; rintro e w' ⟨rfl, hb⟩)
    go_ret2
    exact ⟨rfl, hb⟩

set_option maxHeartbeats 400000 in
theorem sided_ok (A : Option Addr) (c : Nat) (l : List S58) (side : Int) (w : World) (hr : Kd.C k58 w A l.length l) (hc : l.length ≤ c) (h : sideErr l side = 0) :
    Calls Try.prog 56 #[.slice A l.length c, .int .i64 side] w fun e w' => ∃ g A1 c1, e = .returned (.tuple #[.pointer (some ⟨g, 0, none⟩), .int .i64 0]) ∧ IsDesk w' g A c l A1 c1 (worksOf side l) ∧ Below w.heap.size w w' := by
  have h14 := late_CheckOrders.calls A c l (checkO l) w hr hc rfl
  obtain ⟨h1, h2, h3⟩ := sideErr_zero h
  have hlen := checkO_len h1
  rw [h1] at h14
  clear h h1
  have H3 := Lib.hid h3; have H2 := Lib.hid h2
  clear h2 h3
  go_enter Try.func56, Try.ntmps56
  go_wp2_with (go_at_call 14; refine h14.mono ?_; clear h14; rintro e w' ⟨rfl, hb⟩)
  have h42 : Calls Try.prog 42 #[.int .i64 0, .int .i64 1, .slice (some ⟨w'.heap.size, 0, none⟩) 1 1] _ _ := late_within.calls 0 1 (some ⟨w'.heap.size, 0, none⟩) 1 [side] true _ (C_lit w' 2 _ [side] #[.int .i64 side] rfl rfl (by simp)) (by simp) (congrArg some H3.out)
  go_wp2_with (go_at_call 42; refine h42.mono ?_; clear h42; rintro e w2 ⟨rfl, hb2⟩)
  have hb3 : Below w.heap.size w w2 := (hb.alloc hb.size _).trans (hb2.mono (by have := hb.size; simp; omega))
  go_wp2_with (go_at_call 51; refine (newDesk51 side H2.out A c l w2 (by omega) (Kd.C_below hr hb3)).mono ?_; rintro e w3 ⟨g, A1, c1, rfl, hD, hb4⟩)
  go_ret2
  exact ⟨g, A1, c1, rfl, hD, hb3.trans (hb4.mono hb3.size)⟩

/-- The bound of a day: the work of those that are due by then, less the day; and whether there are some. -/
def boundStep (day : Int) (s : Int × Bool) (x : S58 × Int) : Int × Bool := if x.1.f1 ≤ day then (wrap64 (s.1 + x.2), true) else s
def boundFrom (day : Int) (l : List S58) (ws : List Int) : Int × Bool := (l.zip ws).foldl (boundStep day) (wrap64 (-day), false)
theorem boundFrom_succ (day : Int) (l : List S58) (ws : List Int) (k : Nat) (hk : k < l.length) (hk2 : k < ws.length) :
    boundFrom day (l.take (k + 1)) (ws.take (k + 1)) = boundStep day (boundFrom day (l.take k) (ws.take k)) (l[k], ws[k]) := by
  unfold boundFrom
  rw [List.take_succ_eq_append_getElem hk, List.take_succ_eq_append_getElem hk2, List.zip_append (by simp; omega), List.foldl_append]
  rfl

set_option maxRecDepth 100000 in
set_option maxHeartbeats 400000 in
theorem bound57 (g : Nat) (A A1 : Option Addr) (c c1 : Nat) (l : List S58) (ws : List Int) (day : Int) (w : World) (hD : IsDesk w g A c l A1 c1 ws) :
    Calls Try.prog 57 #[.pointer (some ⟨g, 0, none⟩), .int .i64 day] w fun e w' => e = .returned (.tuple #[.int .i64 (boundFrom day l ws).1, .bool (boundFrom day l ws).2]) ∧ Below w.heap.size w w' := by
  have hu71 := Try.underlying71
  have hu73 := Try.underlying73
  have hu58 := Try.underlying58
  obtain ⟨d0, d1, hr, hk, _⟩ := hD
  have hlw : ws.length = l.length := hk.1
  have hlen : l.length ≤ 9223372036854775807 := hr.2.1
  go_enter Try.func57, Try.ntmps57
  go_wp2
  go_loopw [6, 7, 18] (fun s b i wr => ∃ k : Nat, k ≤ l.length ∧ i = .int .i64 k ∧ s = .int .i64 (boundFrom day (l.take k) (ws.take k)).1 ∧ b = .bool (boundFrom day (l.take k) (ws.take k)).2 ∧ Below w.heap.size w wr) (fun _ _ i _ => l.length - (intOf i).toNat)
  case atStart => exact ⟨0, Nat.zero_le _, rfl, rfl, rfl, Below.refl _ _⟩
  case round =>
    obtain ⟨k, hkl, rfl, rfl, rfl, hb⟩ := hrel
    by_cases hlt : k < l.length
    · obtain ⟨ad, rfl, h1, h2, h3⟩ := at_T58 (Kd.C_below hr hb) k (by omega) (by omega)
      obtain ⟨ad1, rfl, h4⟩ := Kd.at_int (Kd.C_below hk hb) k (by omega) (by omega)
      simp only [Int.toNat_natCast] at h1 h2 h3 h4
      have e0 := pw_cell_below hb d0
      have e1 := pw_cell_below hb d1
      have e1a : ∀ o, (wr.alloc o).cell? ⟨g, 1, none⟩ = _ := fun o => (World.cell?_alloc_lt _ _ _ (World.block_lt_of_cell? _ _ e1)).trans e1
      have h4a : ∀ o, (wr.alloc o).cell? (ad1.add k) = _ := fun o => (World.cell?_alloc_lt _ _ _ (World.block_lt_of_cell? _ _ h4)).trans h4
      have hst := boundFrom_succ day l ws k hlt (by omega)
      rw [← rdT_get l k hlt, ← rd_get ws k (by omega)] at hst
      have HST := Lib.hid hst; clear hst
      have HLW := Lib.hid hlw; clear hlw
      generalize hq : boundFrom day (l.take k) (ws.take k) = q at *
      obtain ⟨q1, q2⟩ := q
      have HQ := Lib.hid hq; clear hq
      have hsz := hb.size
      by_cases hc : (rd_T58 l k).f1 ≤ day
      · go_wp2
        refine ⟨⟨k + 1, by omega, by go_num, ?_, ?_, ?_⟩, by simp [intOf]; omega⟩
        · rw [HST.out]; simp [boundStep, hc]
        · rw [HST.out]; simp [boundStep, hc]
        · exact hb.alloc hb.size _
      · go_wp2
        refine ⟨⟨k + 1, by omega, by go_num, ?_, ?_, ?_⟩, by simp [intOf]; omega⟩
        · rw [HST.out]; simp [boundStep, hc]
        · rw [HST.out]; simp [boundStep, hc]
        · exact hb.alloc hb.size _
    · obtain rfl : k = l.length := by omega
      rw [List.take_length, ← hlw, List.take_length]
      have HLW := Lib.hid hlw; clear hlw
      go_wp2
      go_ret2
      exact ⟨rfl, hb⟩

end Go.Proofs.Ytmlahfidnfdhbaa.Pr
namespace Go.Proofs.Ytmlahfidnfdhbaa.Pr
open Go.RowKit Go.Proofs.YtmlahfidnfdhbaaW.PrintWords Go.Proofs.YtmlahfidnfdhbaaW.PrintLast Go.Proofs.YtmlahfidnfdhbaaW.PrintMore

def late_Bound.f (l0 : List (S58)) (a1 : Int) (a2 : Int) : Option (Int × Int) := some (
  if sideErr l0 a1 = 0 then (if within_ 0 2000 [a2] = true then (if (boundFrom a2 l0 (worksOf a1 l0)).2 = true then ((boundFrom a2 l0 (worksOf a1 l0)).1, 0) else (0, 5)) else (0, 2)) else (0, sideErr l0 a1))

set_option maxHeartbeats 400000 in
theorem late_Bound.calls (A0 : Option Addr) (c0 : Nat) (l0 : List (S58)) (a1 : Int) (a2 : Int) (r1 : Int) (r2 : Int) (w : World) (hr0 : Kd.C k58 w A0 l0.length l0) (hc0 : l0.length ≤ c0) (h : late_Bound.f l0 a1 a2 = some (r1, r2)) :
    Calls Try.prog 23 #[.slice A0 l0.length c0, .int .i64 a1, .int .i64 a2] w fun e w' => e = .returned (.tuple #[.int .i64 r1, .int .i64 r2]) ∧ Below w.heap.size w w' := by
  unfold late_Bound.f at h
  by_cases h1 : sideErr l0 a1 = 0
  · rw [if_pos h1] at h
    have h56 := sided_ok A0 c0 l0 a1 w hr0 hc0 h1
    clear h1
    cases h2 : within_ 0 2000 [a2]
    · rw [h2] at h
      simp at h
      obtain ⟨rfl, rfl⟩ := h
      have H2 := Lib.hid h2; clear h2
      go_enter Try.func23, Try.ntmps23
      go_wp2_with (go_at_call 56; refine h56.mono ?_; clear h56; rintro e w1 ⟨g, A1, c1, rfl, hD, hb⟩)
      have h42 : Calls Try.prog 42 #[.int .i64 0, .int .i64 2000, .slice (some ⟨w1.heap.size, 0, none⟩) 1 1] _ _ := late_within.calls 0 2000 (some ⟨w1.heap.size, 0, none⟩) 1 [a2] false _ (C_lit w1 2 _ [a2] #[.int .i64 a2] rfl rfl (by simp)) (by simp) (congrArg some H2.out)
      go_wp2_with (go_at_call 42; refine h42.mono ?_; clear h42; rintro e w2 ⟨rfl, hb2⟩)
      go_ret2
      exact ⟨rfl, (hb.alloc hb.size _).trans (hb2.mono (by have := hb.size; simp; omega))⟩
    · rw [h2, if_pos rfl] at h
      have H2 := Lib.hid h2; clear h2
      have H := Lib.hid h; clear h
      generalize hq : boundFrom a2 l0 (worksOf a1 l0) = q at *
      obtain ⟨q1, q2⟩ := q
      have HQ := Lib.hid hq; clear hq
      cases q2
      all_goals
        go_enter Try.func23, Try.ntmps23
        go_wp2_with (go_at_call 56; refine h56.mono ?_; clear h56; rintro e w1 ⟨g, A1, c1, rfl, hD, hb⟩)
        have h42 : Calls Try.prog 42 #[.int .i64 0, .int .i64 2000, .slice (some ⟨w1.heap.size, 0, none⟩) 1 1] _ _ := late_within.calls 0 2000 (some ⟨w1.heap.size, 0, none⟩) 1 [a2] true _ (C_lit w1 2 _ [a2] #[.int .i64 a2] rfl rfl (by simp)) (by simp) (congrArg some H2.out)
        go_wp2_with (go_at_call 42; refine h42.mono ?_; clear h42; rintro e w2 ⟨rfl, hb2⟩)
        have hb3 : Below w1.heap.size w1 w2 := ((Below.refl _ w1).alloc (Nat.le_refl _) _).trans (hb2.mono (by simp))
        have h57 := bound57 g A0 A1 c0 c1 l0 (worksOf a1 l0) a2 w2 (hD.below hb3)
        rw [HQ.out] at h57
        go_wp2_with (go_at_call 57; refine h57.mono ?_; clear h57; rintro e w4 ⟨rfl, hb4⟩)
        go_ret2
        refine ⟨?_, (hb.trans (hb3.mono hb.size)).trans (hb4.mono (by have := hb.size; have := hb3.size; omega))⟩
        have := H.out
        simp at this
        obtain ⟨rfl, rfl⟩ := this
        rfl
  · rw [if_neg h1] at h
    have h56 := sided_err A0 c0 l0 a1 w hr0 hc0 h1
    simp at h
    obtain ⟨rfl, rfl⟩ := h
    have hz : (sideErr l0 a1 != 0) = true := by simpa using h1
    have hz' : (sideErr l0 a1 == 0) = false := by simpa using h1
    clear h1
    generalize sideErr l0 a1 = q at *
    go_enter Try.func23, Try.ntmps23
    go_wp2_with (go_at_call 56; refine h56.mono ?_; clear h56; rintro e w1 ⟨rfl, hb⟩)
    go_ret2
    exact ⟨rfl, hb⟩

def late_Sequence.f (l0 : List (S58)) : Option (List Int × Int) := some (if checkO l0 = 0 then (byDueL l0, 0) else ([], checkO l0))
theorem byDueL_len (l : List S58) : (byDueL l).length = l.length := by unfold byDueL; rw [insTo_len, iota_len]

set_option maxRecDepth 100000 in
set_option maxHeartbeats 400000 in
theorem late_Sequence.calls (A0 : Option Addr) (c0 : Nat) (l0 : List (S58)) (r1 : List Int) (r2 : Int) (w : World) (hr0 : Kd.C k58 w A0 l0.length l0) (hc0 : l0.length ≤ c0) (h : late_Sequence.f l0 = some (r1, r2)) :
    Calls Try.prog 19 #[.slice A0 l0.length c0] w fun e w' => ∃ v0_ : Value, e = .returned (.tuple #[v0_, .int .i64 r2]) ∧ Kd.R (Kd.int .i64) 3 w' w.heap.size (fun _ => True) v0_ r1 ∧ Below w.heap.size w w' := by
  have h14 := late_CheckOrders.calls A0 c0 l0 (checkO l0) w hr0 hc0 rfl
  unfold late_Sequence.f at h
  have hu71 := Try.underlying71
  have hu73 := Try.underlying73
  by_cases h1 : checkO l0 = 0
  · rw [if_pos h1] at h
    have hlen := checkO_len h1
    simp at h
    obtain ⟨rfl, rfl⟩ := h
    rw [h1] at h14
    clear h1
    have HL := Lib.hid (byDueL_len l0)
    go_enter Try.func19, Try.ntmps19
    go_wp2_with (first
      | (go_at_call 14; refine h14.mono ?_; clear h14; rintro e w1 ⟨rfl, hb⟩)
      | ((with_reducible refine gate_dst (N := 13) rfl ?_); refine Kd.R_make (Kd.int .i64) (w0 := w) w.heap.size 3 rfl (N := 13) rfl 23 _ _ rfl (l0.length : Int) rfl rfl Try.underlying23 (.int .i64 0) 8 info3 rfl (by decide) (by omega) 0 (ok := fun _ => True) (okp := fun _ => True) rfl (fun _ hk => hk) trivial ?a0 ?a1 ?a2 ?a3 ?_; (case a0 => omega); (case a1 => simp; omega); (case a2 => exact hb); (case a3 => exact hb.size); intro v1 w2 ho2 hb2 hg_ hnew_; have HO2 := Lib.hid ho2; clear hg_ hnew_ ho2))
    simp only [Int.toNat_natCast] at HO2
    have hr2 := Kd.C_below hr0 hb2
    go_wp2_with (go_at_call 51; refine (newDesk51 0 (.inl rfl) A0 c0 l0 w2 (by omega) hr2).mono ?_; rintro e w3 ⟨g, A1, c1, rfl, hD, hb3⟩; have hd0 := hD.o)
    have hb24a : ∀ w4, Below w3.heap.size w3 w4 → Below w2.heap.size w2 w4 := fun w4 h => hb3.trans (h.mono hb3.size)
    clear hd0
    have HD := Lib.hid hD; clear hD
    go_wp2_with (first
      | (go_at_call 52; refine (byDue52 A0 c0 l0 w3 (by omega) HD.out.ho).mono ?_; rintro e w4 ⟨v4, rfl, hR4, hb4⟩; have hb24 := hb24a w4 hb4; have HB4 := Lib.hid (hb2.trans (hb24.mono hb2.size)); have HO4 := Lib.hid (Kd.R_below HO2.out hb24); obtain ⟨A4, c4, rfl, hc4, hC4⟩ := Kd.R_reads hR4; rw [HL.out] at hC4; rw [HL.out]; have HC4 := Lib.hid hC4; clear hC4 hR4 hb4 hb24 hc4)
      | ((with_reducible refine gate_builtin (b := .copy) (xs := #[.tmp 14, .tmp 20]) rfl ?_); refine Kd.R_copy (w0 := w) (0 : Int) w.heap.size rfl _ _ 23 23 3 rfl Try.underlying23 (by kernel_rfl) v1 _ (byDueL l0) A4 l0.length c4 (fun _ => True) rfl rfl HO4.out HC4.out HB4.out HB4.out.size ?_; intro w5 ho5 hb5 hg5; have HO5 := Lib.hid ho5; clear ho5 hg5))
    go_ret2
    refine ⟨v1, rfl, ?_, hb5⟩
    have h5 := HO5.out
    have hm : min l0.length (List.replicate l0.length (0 : Int)).length = l0.length := by simp
    rw [hm, List.drop_of_length_le (by simp), List.append_nil, List.take_of_length_le (by rw [HL.out]; exact Nat.le_refl _)] at h5
    exact h5
  · rw [if_neg h1] at h
    simp at h
    obtain ⟨rfl, rfl⟩ := h
    have hz : (checkO l0 != 0) = true := by simpa using h1
    have hz' : (checkO l0 == 0) = false := by simpa using h1
    clear h1
    generalize checkO l0 = q at *
    go_enter Try.func19, Try.ntmps19
    go_wp2_with (go_at_call 14; refine h14.mono ?_; clear h14; rintro e w1 ⟨rfl, hb⟩)
    go_ret2
    exact ⟨_, rfl, Kd.R_nil _ _ _ _ _, hb⟩

end Go.Proofs.Ytmlahfidnfdhbaa.Pr
namespace Go.Proofs.Ytmlahfidnfdhbaa.Pr
open Go.RowKit Go.Proofs.YtmlahfidnfdhbaaW.PrintWords Go.Proofs.YtmlahfidnfdhbaaW.PrintLast Go.Proofs.YtmlahfidnfdhbaaW.PrintMore

section
variable {P : Program} {ops : Array Oper} {rest : List Oper} {o : Oper} {a : Act} {Q : Exit → Act → World → Prop}
/-- clear(v), v a row of whole numbers of one's own. -/
theorem R_clear {w0 W : World} (base : Nat) (hgd : o.guard = none) (s : Operand) (t e : TypeId)
    (ho : o.op = .call { callee := .builtin .clear, args := #[s], argTypes := #[t] }) (ht : P.underlying t = some (.slice e)) (hv : ∀ w, (zeroValue e).run P w = .ok (.int .i64 0) w)
    (v : Value) (xs : List Int) (ok : Nat → Prop) (hs : a.eval s = v)
    (HO : Kd.R (Kd.int .i64) e W base ok v xs) (HB : Below base w0 W) (hbase : base ≤ W.heap.size)
    (h : ∀ w1, Kd.R (Kd.int .i64) e w1 base ok v (List.replicate xs.length 0) → Below base w0 w1 → W.grownBy w1 v.ownBlock → wpList P ops Q rest (a.put o.dst (.tuple #[])) w1) :
    wpList P ops Q (o :: rest) a W := by
  have hown := Kd.own_of_R HO
  have fin : ∀ w1, (Builtin.clear_ #[t] o.type #[v]).run P W = .ok (.tuple #[]) w1 → Kd.R (Kd.int .i64) e w1 base ok v (List.replicate xs.length 0) → W.grownBy w1 v.ownBlock → wpList P ops Q (o :: rest) a W := by
    intro w1 hr hrow hg
    refine wpList_plain hgd fun K hK => ?_
    unfold Oper.wp execOp
    simp only [ho, resolve, invoke, builtin, Sem.run_bind, Sem.run_pure, Result.andThen_ok, List.map_toArray, List.map_cons, List.map_nil, hs, hr]
    exact hK _ _ (h w1 hrow (HB.grown hg hbase (own_base hown)) hg)
  rcases Nat.eq_zero_or_pos xs.length with h0 | hp
  · obtain ⟨A', c', hv'⟩ := own_slice hown
    refine fin W ?_ (by rw [h0]; rw [List.eq_nil_of_length_eq_zero h0] at HO; exact HO) (World.grownBy.refl W _)
    rw [hv', h0]
    cases A' <;> simp [Builtin.clear_, run_underlying ht]
  · rcases hown.2 with ⟨_, hx0⟩ | ⟨g, cap, cur, hv', hb, hh, hnc, hcm, hcs, htake⟩
    · omega
    have hcs1 : cur.size = cap := by omega
    have hr := Lib.run_clear_slice (P := P) W t e o.type (.int .i64 0) ht hv rfl rfl g 0 xs.length cap hp (fun j hj => by rw [cell_of_row W g _ cur e (0, 0) hh]; simp; omega) (fun j _ => blk_frozen hh _)
    obtain ⟨cur', h3, h4, h5⟩ := setCells_row (List.replicate xs.length (Value.int .i64 0)) 0 W cur hh (by simp; omega)
    obtain ⟨s1, s2, s3, s4⟩ := setCells_same g (List.replicate xs.length (Value.int .i64 0)) 0 W
    refine fin _ (by rw [hv']; exact hr) (Kd.R_of_own ?_ HO.1) ⟨s1, s2, s3, by rw [s4]; exact Nat.le_refl _, fun k _ hk => setCells_far _ _ k (fun he => hk (by rw [hv', he]; simp [Value.ownBlock]))⟩
    rw [List.length_replicate]
    refine ⟨by simp [encs], .inr ⟨g, cap, cur', hv', hb, h3, hnc, hcm, by rw [h4, hcs], ?_⟩⟩
    rw [h5]
    simp [encs]
end

/-- The error of a sequence. -/
def seqErr (l : List S58) (s : List Int) : Int := if checkO l = 0 then (if s.length = l.length then (if (iota l.length).all (fun i => s.contains i) = true then 0 else 2) else 15) else checkO l

theorem index_ev (s : List Int) (x : Int) (hs : s.length ≤ 9223372036854775806) : ∀ d j, s.length - j = d → j ≤ s.length → Ev (fun k => slices_Index_int_int.l0 k s x (s.length : Int) (j : Int)) (if (s.drop j).contains x then j + ((s.drop j).idxOf x : Nat) else -1) := by
  intro d
  induction d with
  | zero =>
    intro j h1 h2
    obtain rfl : j = s.length := by omega
    refine Ev.step (f := fun _ => some (-1)) (fun k => ?_) ?_
    · simp only [slices_Index_int_int.l0]
      rw [if_neg (by omega)]
    · have e : (if (List.drop s.length s).contains x = true then ((s.length : Nat) : Int) + ((List.idxOf x (List.drop s.length s) : Nat) : Int) else -1) = -1 := by simp
      rw [e]
      exact Ev.now _
  | succ d ih =>
    intro j h1 h2
    have hj : j < s.length := by omega
    have hd : s.drop j = s[j] :: s.drop (j + 1) := List.drop_eq_getElem_cons hj
    by_cases hx : x = s[j]
    · refine Ev.step (f := fun _ => some (j : Int)) (fun k => ?_) ?_
      · simp only [slices_Index_int_int.l0]
        rw [if_pos (by omega), if_pos (by omega), if_pos (by omega), rd_get s j hj, if_pos hx]
      · rw [hd]
        have e : (if (s[j] :: List.drop (j + 1) s).contains x = true then (j : Int) + ((List.idxOf x (s[j] :: List.drop (j + 1) s) : Nat) : Int) else -1) = j := by
          rw [hx]
          generalize s[j] = y
          generalize List.drop (j + 1) s = ys
          simp
        rw [e]
        exact Ev.now _
    · refine Ev.step (f := fun k => slices_Index_int_int.l0 k s x (s.length : Int) ((j + 1 : Nat) : Int)) (fun k => ?_) ?_
      · simp only [slices_Index_int_int.l0]
        rw [if_pos (by omega), if_pos (by omega), if_pos (by omega), rd_get s j hj, if_neg hx]
        congr 1
        unfold wrap64
        omega
      · have := ih (j + 1) (by omega) (by omega)
        rw [hd]
        have hx' : (x == s[j]) = false := by simpa using hx
        have hx2 : (s[j] == x) = false := by simpa using fun h => hx h.symm
        simp only [List.contains_cons, hx', Bool.false_or, List.idxOf_cons, hx2, cond_false]
        split at this
        · rename_i hc
          rw [if_pos hc]
          have e : (j : Int) + ((List.idxOf x (List.drop (j + 1) s) + 1 : Nat) : Int) = ((j + 1 : Nat) : Int) + (List.idxOf x (List.drop (j + 1) s) : Nat) := by omega
          rw [e]
          exact this
        · rename_i hc
          rw [if_neg hc]
          exact this
theorem contains_ev (s : List Int) (x : Int) (hs : s.length ≤ 9223372036854775806) : Ev (fun k => slices_Contains_int_int.f k s x) (s.contains x) := by
  unfold slices_Contains_int_int.f slices_Index_int_int.f
  refine Ev.bind (index_ev s x hs s.length 0 rfl (by omega)) ?_
  have : (s.contains x) = decide ((if (s.drop 0).contains x then ((0 : Nat) : Int) + ((s.drop 0).idxOf x : Nat) else -1) ≥ 0) := by
    simp only [List.drop_zero]
    cases h : s.contains x <;> simp <;> omega
  rw [this]
  exact Ev.now _

theorem seq_loop_ev (s : List Int) (n : Nat) (hn : n ≤ 20) (hs : s.length ≤ 9223372036854775806) : ∀ d j, n - j = d → j ≤ n →
    Ev (fun k => late_checkSequence.l0 k s (n : Int) (j : Int)) (if ((iota n).drop j).all (fun i => s.contains i) = true then 0 else 2) := by
  intro d
  induction d with
  | zero =>
    intro j h1 h2
    obtain rfl : j = n := by omega
    refine Ev.step (f := fun _ => some 0) (fun k => ?_) ?_
    · simp only [late_checkSequence.l0]
      rw [if_neg (by omega)]
    · rw [List.drop_of_length_le (by rw [iota_len]; omega)]
      exact Ev.now _
  | succ d ih =>
    intro j h1 h2
    have hj : j < n := by omega
    have hd : (iota n).drop j = (j : Int) :: (iota n).drop (j + 1) := by
      rw [List.drop_eq_getElem_cons (by rw [iota_len]; omega)]
      simp [iota]
    refine Ev.step (f := fun k => (slices_Contains_int_int.f k s (j : Int)).bind fun t104 => (if t104 = true then (late_checkSequence.l0 k s (n : Int) ((j + 1 : Nat) : Int)) else (some 2))) (fun k => ?_) ?_
    · simp only [late_checkSequence.l0]
      rw [if_pos (by omega)]
      congr 1
      funext t
      rw [show wrap64 ((j : Int) + 1) = ((j + 1 : Nat) : Int) by unfold wrap64; omega]
    · refine Ev.bind (contains_ev s j hs) ?_
      rw [hd, List.all_cons]
      cases h : s.contains (j : Int)
      · exact Ev.now _
      · simp only [if_true, Bool.true_and]
        exact ih (j + 1) (by omega) (by omega)

theorem checkSequence_ev (l : List S58) (s : List Int) : Ev (fun k => late_checkSequence.f k l s) (seqErr l s) := by
  unfold late_checkSequence.f seqErr
  simp only [checkO_f, Option.bind_some]
  by_cases h1 : checkO l = 0
  · simp only [if_pos h1]
    have hl := checkO_len h1
    by_cases h2 : s.length = l.length
    · rw [if_pos h2]
      have h2' : (s.length : Int) = (l.length : Int) := by omega
      simp only [if_pos h2']
      exact seq_loop_ev s l.length (by omega) (by omega) l.length 0 rfl (by omega)
    · rw [if_neg h2]
      have h2' : ¬ (s.length : Int) = (l.length : Int) := by omega
      simp only [if_neg h2']
      exact Ev.now _
  · simp only [if_neg h1]
    exact Ev.now _

/-! ### what a good sequence is -/
theorem iota_mem {n : Nat} {x : Int} : x ∈ iota n ↔ 0 ≤ x ∧ x < n := by
  unfold iota
  simp only [List.mem_map, List.mem_range]
  constructor
  · rintro ⟨a, ha, rfl⟩
    omega
  · intro h
    exact ⟨x.toNat, by omega, by omega⟩
theorem filter_len_le {p : Int → Bool} (s : List Int) : (s.filter p).length ≤ s.length := List.length_filter_le _ _
theorem pigeon : ∀ (n : Nat) (s : List Int), s.length = n → (∀ x, x ∈ iota n → x ∈ s) → (∀ x ∈ s, 0 ≤ x ∧ x < n) ∧ s.Nodup := by
  intro n
  induction n with
  | zero =>
    intro s h1 _
    rw [List.eq_nil_of_length_eq_zero h1]
    exact ⟨by simp, List.nodup_nil⟩
  | succ n ih =>
    intro s h1 h2
    have hn : (n : Int) ∈ s := h2 n (iota_mem.2 (by omega))
    have hl : (s.erase (n : Int)).length = n := by rw [List.length_erase_of_mem hn]; omega
    obtain ⟨hr, hnd⟩ := ih (s.erase (n : Int)) hl (fun x hx => by
      have hx' := iota_mem.1 hx
      exact (List.mem_erase_of_ne (by omega)).2 (h2 x (iota_mem.2 (by omega))))
    have hperm := List.perm_cons_erase hn
    refine ⟨fun x hx => ?_, ?_⟩
    · have := hperm.mem_iff.1 hx
      simp only [List.mem_cons] at this
      rcases this with rfl | h
      · omega
      · have := hr x h
        omega
    · rw [hperm.nodup_iff, List.nodup_cons]
      exact ⟨fun h => by have := hr _ h; omega, hnd⟩
theorem seqErr_zero {l : List S58} {s : List Int} (h : seqErr l s = 0) : checkO l = 0 ∧ s.length = l.length ∧ (∀ x, x ∈ iota l.length → x ∈ s) ∧ (∀ x ∈ s, 0 ≤ x ∧ x < l.length) ∧ s.Nodup := by
  unfold seqErr at h
  split at h
  · rename_i h1
    split at h
    · rename_i h2
      split at h
      · rename_i h3
        rw [List.all_eq_true] at h3
        have h4 : ∀ x, x ∈ iota l.length → x ∈ s := fun x hx => by simpa using h3 x hx
        obtain ⟨h5, h6⟩ := pigeon l.length s h2 h4
        exact ⟨h1, h2, h4, h5, h6⟩
      · omega
    · omega
  · omega

/-- When the orders of a sequence end. -/
def endsStep (ws : List Int) (q : Int × List Int) (x : Int) : Int × List Int := (wrap64 (q.1 + rd ws x), q.2.set x.toNat (wrap64 (q.1 + rd ws x)))
def endsL (s ws : List Int) : List Int := (s.foldl (endsStep ws) (0, List.replicate s.length 0)).2
theorem ends_fold_len (ws : List Int) : ∀ (s : List Int) (q : Int × List Int), (s.foldl (endsStep ws) q).2.length = q.2.length
  | [], _ => rfl
  | x :: s, q => by rw [List.foldl_cons, ends_fold_len ws s]; simp [endsStep]
theorem endsL_len (s ws : List Int) : (endsL s ws).length = s.length := by unfold endsL; rw [ends_fold_len]; simp
theorem ends_loop_ev (s ws : List Int) (hs : s.length ≤ 9223372036854775806) (hr : ∀ x ∈ s, 0 ≤ x ∧ x < ws.length ∧ x < s.length) : ∀ d j (q : Int × List Int), s.length - j = d → j ≤ s.length → q.2.length = s.length →
    Ev (fun k => late_ends.l0 k ws q.2 q.1 s (s.length : Int) (j : Int)) ((s.drop j).foldl (endsStep ws) q).2 := by
  intro d
  induction d with
  | zero =>
    intro j q h1 h2 h3
    obtain rfl : j = s.length := by omega
    refine Ev.step (f := fun _ => some q.2) (fun k => ?_) ?_
    · simp only [late_ends.l0]
      rw [if_neg (by omega)]
    · rw [List.drop_length]
      exact Ev.now _
  | succ d ih =>
    intro j q h1 h2 h3
    have hj : j < s.length := by omega
    have hd : s.drop j = s[j] :: s.drop (j + 1) := List.drop_eq_getElem_cons hj
    obtain ⟨r1, r2, r3⟩ := hr s[j] (List.getElem_mem hj)
    refine Ev.step (f := fun k => late_ends.l0 k ws (endsStep ws q s[j]).2 (endsStep ws q s[j]).1 s (s.length : Int) ((j + 1 : Nat) : Int)) (fun k => ?_) ?_
    · simp only [late_ends.l0]
      rw [if_pos (by omega), if_pos (by omega), if_pos (by omega), rd_get s j hj, if_pos r1, if_pos r2, if_pos (by omega), show wrap64 ((j : Int) + 1) = ((j + 1 : Nat) : Int) by unfold wrap64; omega]
      rfl
    · rw [hd, List.foldl_cons]
      exact ih (j + 1) _ (by omega) (by omega) (by simp [endsStep, h3])
theorem ends_ev (s ws : List Int) (hs : s.length ≤ 1000) (hr : ∀ x ∈ s, 0 ≤ x ∧ x < ws.length ∧ x < s.length) : Ev (fun k => late_ends.f k s ws) (endsL s ws) := by
  unfold late_ends.f
  simp only [if_pos (show (0 : Int) ≤ (s.length : Int) by omega), if_pos (show ((s.length : Int)).toNat ≤ 35184372088832 by omega)]
  have := ends_loop_ev s ws (by omega) hr s.length 0 (0, List.replicate s.length 0) rfl (by omega) (by simp)
  unfold endsL
  simpa using this

end Go.Proofs.Ytmlahfidnfdhbaa.Pr
namespace Go.Proofs.Ytmlahfidnfdhbaa.Pr
open Go.RowKit Go.Proofs.YtmlahfidnfdhbaaW.PrintWords Go.Proofs.YtmlahfidnfdhbaaW.PrintLast Go.Proofs.YtmlahfidnfdhbaaW.PrintMore

def passTo (l : List S58) (es : List Int) : Nat → List Int → List Int
  | 0, out => out
  | k + 1, out => if rd es k ≤ (rd_T58 l k).f1 then (passTo l es k out).set k (wrap64 (rd (passTo l es k out) k + 1)) else passTo l es k out
def passes (l : List S58) (s : List Int) : Nat → List Int
  | 0 => List.replicate l.length 0
  | m + 1 => passTo l (endsL s (worksOf m l)) l.length (passes l s m)
theorem passTo_len (l : List S58) (es : List Int) : ∀ (k : Nat) (out : List Int), (passTo l es k out).length = out.length
  | 0, _ => rfl
  | k + 1, out => by unfold passTo; split <;> simp [passTo_len l es k out]
theorem passes_len (l : List S58) (s : List Int) : ∀ m, (passes l s m).length = l.length
  | 0 => by simp [passes]
  | m + 1 => by unfold passes; rw [passTo_len, passes_len]
def late_Kinds.f (l0 : List (S58)) (l1 : List Int) : Option (List Int × Int) := some (if seqErr l0 l1 = 0 then (passes l0 l1 2, 0) else ([], seqErr l0 l1))

theorem worksOf_len (m : Int) (l : List S58) : (worksOf m l).length = l.length := by simp [worksOf]

set_option maxRecDepth 100000 in
set_option maxHeartbeats 1000000 in
theorem late_Kinds.calls (A0 : Option Addr) (c0 : Nat) (l0 : List (S58)) (A1 : Option Addr) (c1 : Nat) (l1 : List Int) (r1 : List Int) (r2 : Int) (w : World) (hr0 : Kd.C k58 w A0 l0.length l0) (hc0 : l0.length ≤ c0) (hr1 : Kd.C (Kd.int .i64) w A1 l1.length l1) (hc1 : l1.length ≤ c1) (h : late_Kinds.f l0 l1 = some (r1, r2)) :
    Calls Try.prog 21 #[.slice A0 l0.length c0, .slice A1 l1.length c1] w fun e w' => ∃ v0_ : Value, e = .returned (.tuple #[v0_, .int .i64 r2]) ∧ Kd.R (Kd.int .i64) 3 w' w.heap.size (fun _ => True) v0_ r1 ∧ Below w.heap.size w w' := by
  have hmax1 : l1.length ≤ 9223372036854775807 := hr1.2.1
  obtain ⟨k, hk⟩ := (checkSequence_ev l0 l1).rounds
  have h41 := late_checkSequence.calls k A0 c0 l0 A1 c1 l1 _ w hr0 hc0 hr1 hc1 hk
  unfold late_Kinds.f at h
  have hu71 := Try.underlying71
  have hu73 := Try.underlying73
  have hu58 := Try.underlying58
  by_cases h1 : seqErr l0 l1 = 0
  · rw [if_pos h1] at h
    obtain ⟨hz1, hz2, hz3, hz4, hz5⟩ := seqErr_zero h1
    have hlen := checkO_len hz1
    simp at h
    obtain ⟨rfl, rfl⟩ := h
    rw [h1] at h41
    have HZ2 := Lib.hid hz2; have HZ4 := Lib.hid hz4
    clear h1 hk hz1 hz2 hz3 hz4 hz5
    have hle1 : l1.length ≤ 10 := by rw [HZ2.out]; exact hlen
    go_enter Try.func21, Try.ntmps21
    go_wp2_with (first
      | (go_at_call 41; refine h41.mono ?_; clear h41; rintro e w1 ⟨rfl, hb⟩)
      | ((with_reducible refine gate_dst (N := 19) rfl ?_); refine Kd.R_make (Kd.int .i64) (w0 := w) w.heap.size 3 rfl (N := 19) rfl 23 _ _ rfl (l0.length : Int) rfl rfl Try.underlying23 (.int .i64 0) 8 info3 rfl (by decide) (by omega) 0 (ok := fun _ => True) (okp := fun _ => True) rfl (fun _ hk => hk) trivial ?a0 ?a1 ?a2 ?a3 ?_; (case a0 => omega); (case a1 => simp; omega); (case a2 => exact hb); (case a3 => exact hb.size); intro v1 w2 ho2 hb2 hg_ hnew_; have HO2 := Lib.hid ho2; clear hg_ hnew_ ho2)
      | ((with_reducible refine gate_builtin (b := .clear) (xs := #[.tmp 20]) rfl ?_); refine R_clear (w0 := w) w.heap.size rfl _ 23 3 rfl Try.underlying23 (fun _ => by kernel_rfl) v1 _ (fun _ => True) rfl HO2.out hb2 hb2.size ?_; intro w3 ho3 hb3 hg3; have HO3 := Lib.hid ho3; have HB3 := Lib.hid hb3; clear ho3 hg3 hb3))
    go_loopw [21] (fun i wr => ∃ m : Nat, m ≤ 2 ∧ i = .int .i64 m ∧ Hid (Kd.R (Kd.int .i64) 3 wr w.heap.size (fun _ => True) v1 (passes l0 l1 m)) ∧ Hid (Below w.heap.size w wr)) (fun i _ => 2 - (intOf i).toNat)
    case atStart =>
      refine ⟨0, by omega, rfl, ?_, HB3⟩
      have h3 := HO3.out
      simp only [List.length_replicate, Int.toNat_natCast] at h3
      exact h3
    case round =>
      obtain ⟨m, hm, rfl, HR, HB⟩ := hrel
      by_cases hlt : m < 2
      · have hside : (m : Int) = 0 ∨ (m : Int) = 1 := by omega
        have hr0' := Kd.C_below hr0 HB.out
        have hlw := worksOf_len (m : Int) l0
        obtain ⟨ke, hke⟩ := (ends_ev l1 (worksOf m l0) (by omega) (fun x hx => by have := HZ4.out x hx; have := HZ2.out; omega)).rounds
        have HE := Lib.hid hke; clear hke
        have HLW := Lib.hid hlw; clear hlw
        have hel : (endsL l1 (worksOf m l0)).length = l0.length := by rw [endsL_len]; exact HZ2.out
        have HEL := Lib.hid hel; clear hel
        have h51 := newDesk51 (m : Int) hside A0 c0 l0 wr (by omega) hr0'
        go_wp2_with (first
          | (go_at_call 51; refine h51.mono ?_; clear h51; rintro e w4 ⟨g, A4, c4, rfl, hD, hb4⟩; have d1 := hD.k; have hr1'' := Kd.C_below hr1 (HB.out.trans (hb4.mono HB.out.size)); have hk4 := hD.hk; have hcap4 := hD.hcap; rw [← HLW.out] at hk4 hcap4; have h43 := late_ends.calls ke A1 c1 l1 A4 c4 (worksOf m l0) _ w4 hr1'' hc1 hk4 hcap4 HE.out; rw [HLW.out] at h43; have H43 := Lib.hid h43; have HB4 := Lib.hid (HB.out.trans (hb4.mono HB.out.size)); have HR4 := Lib.hid (Kd.R_below HR.out hb4); clear h43 hk4 hcap4 hr1'' hb4 hD)
          | (go_at_call 43; refine H43.out.mono ?_; rintro e w5 ⟨v5, rfl, hR5, hb5⟩; obtain ⟨A5, c5, rfl⟩ := Kd.R_slice hR5; rw [HEL.out] at hR5; rw [HEL.out]; have HC5 := Lib.hid (Kd.R_lower hR5 HB4.out.size); have HB5 := Lib.hid (HB4.out.trans (hb5.mono HB4.out.size)); have HR5 := Lib.hid (Kd.R_below HR4.out hb5); clear hR5 hb5))
        go_loopw [33] (fun i wq => ∃ j : Nat, j ≤ l0.length ∧ i = .int .i64 j ∧ Hid (Kd.R (Kd.int .i64) 3 wq w.heap.size (fun _ => True) v1 (passTo l0 (endsL l1 (worksOf m l0)) j (passes l0 l1 m))) ∧ Hid (Below w.heap.size w wq) ∧ Hid (Kd.R (Kd.int .i64) 2 wq w.heap.size (fun _ => True) (.slice A5 l0.length c5) (endsL l1 (worksOf m l0)))) (fun i _ => l0.length - (intOf i).toNat)
        case atStart => exact ⟨0, Nat.zero_le _, rfl, HR5, HB5, HC5⟩
        case round =>
          obtain ⟨j, hj, rfl, HRj, HBj, HCj⟩ := hrel
          by_cases hjl : j < l0.length
          · obtain ⟨ad, rfl, q1, q2, q3⟩ := at_T58 (Kd.C_below hr0 HBj.out) j (by omega) (by omega)
            have hcj := (Kd.R_reads' HCj.out).2.2
            rw [HEL.out] at hcj
            obtain ⟨ad5, rfl, q4⟩ := Kd.at_int hcj j (by omega) (by omega)
            clear hcj
            simp only [Int.toNat_natCast] at q1 q2 q3 q4
            have hpl : (passTo l0 (endsL l1 (worksOf m l0)) j (passes l0 l1 m)).length = l0.length := by rw [passTo_len, passes_len]
            obtain ⟨gv, cv, rfl, hgv, hgl, cellsv, hcv⟩ := Kd.R_form HRj.out (by rw [hpl]; omega)
            obtain ⟨q5, q6⟩ := Kd.R_celln (0 : Int) HRj.out (j : Int) (by omega) (by rw [hpl]; omega)
            replace q5 : wr.cell? ⟨gv, j, none⟩ = some (.int .i64 (rd (passTo l0 (endsL l1 (worksOf m l0)) j (passes l0 l1 m)) j)) := q5
            replace q6 : wr.frozen? ⟨gv, j, none⟩ = false := q6
            have HPL := Lib.hid hpl
            rw [hpl] at HRj ⊢
            have HPS : Hid (passTo l0 (endsL l1 (worksOf m l0)) (j + 1) (passes l0 l1 m) = if rd (endsL l1 (worksOf m l0)) j ≤ (rd_T58 l0 j).f1 then (passTo l0 (endsL l1 (worksOf m l0)) j (passes l0 l1 m)).set j (wrap64 (rd (passTo l0 (endsL l1 (worksOf m l0)) j (passes l0 l1 m)) j + 1)) else passTo l0 (endsL l1 (worksOf m l0)) j (passes l0 l1 m)) := rfl
            have HCV := Lib.hid hcv
            clear hpl hcv
            generalize passTo l0 (endsL l1 (worksOf m l0)) j (passes l0 l1 m) = ps at *
            by_cases hc : rd (endsL l1 (worksOf m l0)) j ≤ (rd_T58 l0 j).f1
            · go_wp2
              refine ⟨⟨j + 1, by omega, by go_num, ?_, ?_, ?_⟩, by simp [intOf]; omega⟩
              · rw [HPS.out, if_pos hc]
                exact Kd.R_putn (h1 := fun _ => rfl) HRj.out (j : Int) _
              · exact HBj.out.setCell (p := ⟨gv, j, none⟩) hgv _
              · exact Kd.R_set HCj.out HCV.out (by simp [Kd.int, Kd.scalar]) j _
            · go_wp2
              refine ⟨⟨j + 1, by omega, by go_num, ?_, ?_, ?_⟩, by simp [intOf]; omega⟩
              · rw [HPS.out, if_neg (by omega)]
                exact HRj.out
              · exact HBj.out
              · exact HCj.out
          · obtain rfl : j = l0.length := by omega
            go_wp2
            refine ⟨⟨m + 1, by omega, by go_num, ?_, HBj⟩, by simp [intOf]; omega⟩
            unfold passes
            exact HRj
      · obtain rfl : m = 2 := by omega
        go_wp2
        go_ret2
        exact ⟨_, rfl, HR.out, HB.out⟩
  · rw [if_neg h1] at h
    simp at h
    obtain ⟨rfl, rfl⟩ := h
    have hz : (seqErr l0 l1 != 0) = true := by simpa using h1
    have hz' : (seqErr l0 l1 == 0) = false := by simpa using h1
    clear h1 hk
    generalize seqErr l0 l1 = q at *
    go_enter Try.func21, Try.ntmps21
    go_wp2_with (go_at_call 41; refine h41.mono ?_; clear h41; rintro e w1 ⟨rfl, hb⟩)
    go_ret2
    exact ⟨_, rfl, Kd.R_nil _ _ _ _ _, hb⟩

end Go.Proofs.Ytmlahfidnfdhbaa.Pr
namespace Go.Proofs.Ytmlahfidnfdhbaa.Pr
open Go.RowKit Go.Proofs.YtmlahfidnfdhbaaW.PrintWords Go.Proofs.YtmlahfidnfdhbaaW.PrintLast Go.Proofs.YtmlahfidnfdhbaaW.PrintMore

set_option maxHeartbeats 400000 in
theorem more47 (x y : Int) (w : World) : Calls Try.prog 47 #[.int .i64 x, .int .i64 y] w fun e w' => e = .returned (.bool (decide (y < x))) ∧ w = w' := by
  go_enter Try.func47, Try.ntmps47
  go_wp2
  go_ret
  exact ⟨rfl, rfl⟩

def maxTo (l : List Int) : Nat → Int
  | 0 => rd l 0
  | k + 1 => if maxTo l k < rd l (k + 1) then rd l (k + 1) else maxTo l k

theorem spot_none {w : World} {ad : Addr} {v : Value} (h : w.cell? ad = some v) : ad = ⟨ad.block, ad.off, none⟩ := by
  obtain ⟨b, o, s⟩ := ad
  cases s with
  | none => rfl
  | some q =>
    unfold World.cell? at h
    split at h <;> simp at h
theorem add_off (b o j : Nat) : (⟨b, o, none⟩ : Addr).add j = ⟨b, o + j, none⟩ := by unfold Addr.add; split <;> simp_all
/-- A row that is read, its place as block and offset. -/
theorem C_at {w : World} {A : Option Addr} {n : Nat} {xs : List Int} (h : Kd.C (Kd.int .i64) w A n xs) (h0 : 0 < n) : ∃ b o, A = some ⟨b, o, none⟩ ∧ b < w.heap.size ∧ ∀ j, j < n → w.cell? ⟨b, o + j, none⟩ = some (.int .i64 (rd xs j)) := by
  obtain ⟨ad, rfl, hc⟩ := Kd.at_int h (0 : Nat) (by omega) (by omega)
  simp only [Int.toNat_natCast] at hc
  obtain ⟨b, o, s⟩ := ad
  have hs : s = none := by
    cases s with
    | none => rfl
    | some q =>
      exfalso
      have hc' : w.cell? ⟨b, o, some q⟩ = some (.int .i64 (rd xs (0 : Nat))) := hc
      have := spot_none hc'
      simp at this
  subst hs
  refine ⟨b, o, rfl, by have := World.block_lt_of_cell? _ _ hc; rw [add_off] at this; exact this, fun j hj => ?_⟩
  obtain ⟨ad', e, hcj⟩ := Kd.at_int h (j : Int) (by omega) (by omega)
  cases e
  simp only [Int.toNat_natCast] at hcj
  rw [add_off] at hcj
  exact hcj

theorem C_cell {w : World} {A : Option Addr} {n : Nat} {xs : List Int} (h : Kd.C (Kd.int .i64) w A n xs) (j : Nat) (hj : j < n) : ∃ ad, A = some ad ∧ w.cell? (ad.add j) = some (.int .i64 (rd xs j)) := by
  obtain ⟨ad, e, hc⟩ := Kd.at_int h j (by omega) (by omega)
  exact ⟨ad, e, by simpa using hc⟩

set_option maxHeartbeats 400000 in
theorem best46 (A : Option Addr) (c : Nat) (l : List Int) (w : World) (hr : Kd.C (Kd.int .i64) w A l.length l) (hc : l.length ≤ c) (h0 : 0 < l.length) :
    Calls Try.prog 46 #[.slice A l.length c, .func (.func 47) #[] #[]] w fun e w' => e = .returned (.int .i64 (maxTo l (l.length - 1))) ∧ w = w' := by
  have hlen : l.length ≤ 9223372036854775807 := hr.2.1
  obtain ⟨b, o, rfl, _, hcs⟩ := C_at hr h0
  have HCS := Lib.hid hcs
  have hc00 : w.cell? ⟨b, o, none⟩ = some (.int .i64 (rd l 0)) := hcs 0 h0
  clear hcs
  have H0 := Lib.hid h0
  have hR := Lib.hid hr; clear hr
  by_cases hcap : c = 1
  · have hl1 : l.length = 1 := by omega
    rw [hl1]
    subst hcap
    have HL := Lib.hid hl1; clear hl1 hc hlen h0
    go_enter Try.func46, Try.ntmps46
    go_wp2
    refine wp_loop_rounds 1 ?_
    rw [rounds_succ]
    go_wp2
    go_ret
    exact ⟨rfl, rfl⟩
  · have hc2 : 1 < c := by omega
    go_enter Try.func46, Try.ntmps46
    go_wp2
    go_loop [5, 14] (fun v i => ∃ k : Nat, k ≤ l.length - 1 ∧ i = .int .i64 k ∧ v = .int .i64 (maxTo l k)) (fun _ i => l.length - 1 - (intOf i).toNat)
    case atStart => exact ⟨0, Nat.zero_le _, rfl, rfl⟩
    case round =>
      obtain ⟨k, hk, rfl, rfl⟩ := hrel
      by_cases hlt : k < l.length - 1
      · have q2 : w.cell? ⟨b, o + 1 + k, none⟩ = some (.int .i64 (rd l ((k + 1 : Nat) : Int))) := by
          have := HCS.out (k + 1) (by omega)
          rw [show o + (k + 1) = o + 1 + k by omega] at this
          exact this
        have HM : Hid (maxTo l (k + 1) = if maxTo l k < rd l ((k + 1 : Nat) : Int) then rd l ((k + 1 : Nat) : Int) else maxTo l k) := rfl
        have h47 := more47 (rd l ((k + 1 : Nat) : Int)) (maxTo l k) w
        generalize hy : rd l ((k + 1 : Nat) : Int) = y at *
        generalize hz : maxTo l k = z at *
        have HY := Lib.hid hy; have HZ := Lib.hid hz; clear hy hz
        by_cases hc : z < y
        all_goals
          go_wp2_with (go_at_call 47; refine h47.mono ?_; clear h47; rintro e w' ⟨rfl, rfl⟩)
          exact ⟨⟨k + 1, by omega, by go_num, by rw [HM.out]; first | rw [if_pos hc] | rw [if_neg (by omega)]⟩, by simp [intOf]; omega⟩
      · obtain rfl : k = l.length - 1 := by omega
        go_wp2
        go_ret
        exact ⟨rfl, rfl⟩
/-- Ends less Dues. -/
def delays (l : List S58) (es : List Int) : Nat → List Int
  | 0 => es
  | k + 1 => (delays l es k).set k (wrap64 (rd (delays l es k) k - (rd_T58 l k).f1))
theorem delays_len (l : List S58) (es : List Int) : ∀ k, (delays l es k).length = es.length
  | 0 => rfl
  | k + 1 => by unfold delays; rw [List.length_set, delays_len]

end Go.Proofs.Ytmlahfidnfdhbaa.Pr
namespace Go.Proofs.Ytmlahfidnfdhbaa.Pr
open Go.RowKit Go.Proofs.YtmlahfidnfdhbaaW.PrintWords Go.Proofs.YtmlahfidnfdhbaaW.PrintLast Go.Proofs.YtmlahfidnfdhbaaW.PrintMore

/-- Is the work at place i within its bounds? -/
def workAt (l : List S58) (ws : List Int) (i : Int) : Bool := within_ (rd_T58 l i).f0.f0 (rd_T58 l i).f0.f1 [rd ws i]
def endsErr (l : List S58) (s ws : List Int) : Int := if seqErr l s = 0 then (if ws.length = l.length then (if (iota l.length).all (workAt l ws) = true then 0 else 3) else 15) else seqErr l s

theorem Ends_loop_ev (l : List S58) (s ws : List Int) (r : List Int) (hl : l.length ≤ 20) (hw : ws.length = l.length) (he : Ev (fun k => late_ends.f k s ws) r) : ∀ d j, l.length - j = d → j ≤ l.length →
    Ev (fun k => late_Ends.l0 k s ws l (l.length : Int) (j : Int)) (if ((iota l.length).drop j).all (workAt l ws) = true then (r, 0) else ([], 3)) := by
  intro d
  induction d with
  | zero =>
    intro j h1 h2
    obtain rfl : j = l.length := by omega
    refine Ev.step (f := fun k => (late_ends.f k s ws).bind fun t119 => (some (t119, 0))) (fun k => ?_) ?_
    · simp only [late_Ends.l0]
      rw [if_neg (by omega)]
    · rw [List.drop_of_length_le (by rw [iota_len]; omega)]
      refine Ev.bind he ?_
      exact Ev.now _
  | succ d ih =>
    intro j h1 h2
    have hj : j < l.length := by omega
    have hd : (iota l.length).drop j = (j : Int) :: (iota l.length).drop (j + 1) := by
      rw [List.drop_eq_getElem_cons (by rw [iota_len]; omega)]
      simp [iota]
    rw [hd, List.all_cons]
    refine Ev.step (f := fun k => if workAt l ws j = true then (late_Ends.l0 k s ws l (l.length : Int) ((j + 1 : Nat) : Int)) else (some (([] : List Int), 3))) (fun k => ?_) ?_
    · simp only [late_Ends.l0, late_within.f, Option.bind_some]
      rw [if_pos (by omega), if_pos (by omega), if_pos (by omega), if_pos (by omega), show wrap64 ((j : Int) + 1) = ((j + 1 : Nat) : Int) by unfold wrap64; omega]
      rfl
    · cases h : workAt l ws j
      · exact Ev.now _
      · simp only [if_true, Bool.true_and]
        exact ih (j + 1) (by omega) (by omega)
theorem Ends_ev (l : List S58) (s ws : List Int) : Ev (fun k => late_Ends.f k l s ws) (if endsErr l s ws = 0 then (endsL s ws, 0) else ([], endsErr l s ws)) := by
  unfold late_Ends.f
  refine Ev.bind (checkSequence_ev l s) ?_
  unfold endsErr
  by_cases h1 : seqErr l s = 0
  · obtain ⟨hz1, hz2, hz3, hz4, hz5⟩ := seqErr_zero h1
    have hlen := checkO_len hz1
    simp only [if_pos h1]
    by_cases h2 : ws.length = l.length
    · have h2' : (ws.length : Int) = (l.length : Int) := by omega
      simp only [if_pos h2, if_pos h2']
      have := Ends_loop_ev l s ws (endsL s ws) (by omega) h2 (ends_ev s ws (by omega) (fun x hx => by have := hz4 x hx; omega)) l.length 0 rfl (by omega)
      rw [List.drop_zero] at this
      cases h3 : (iota l.length).all (workAt l ws)
      · rw [h3] at this
        simpa using this
      · rw [h3] at this
        simpa using this
    · have h2' : ¬ (ws.length : Int) = (l.length : Int) := by omega
      simp only [if_neg h2, if_neg h2']
      exact Ev.now _
  · simp only [if_neg h1]
    exact Ev.now _

def late_Delay.f (l0 : List (S58)) (l1 : List Int) (l2 : List Int) : Option (Int × Int) := some (
  if endsErr l0 l1 l2 = 0 then (if l0.length = 0 then (0, 5) else (maxTo (delays l0 (endsL l1 l2) l0.length) (l0.length - 1), 0)) else (0, endsErr l0 l1 l2))

set_option maxRecDepth 100000 in
set_option maxHeartbeats 1000000 in
theorem late_Delay.calls (A0 : Option Addr) (c0 : Nat) (l0 : List (S58)) (A1 : Option Addr) (c1 : Nat) (l1 : List Int) (A2 : Option Addr) (c2 : Nat) (l2 : List Int) (r1 : Int) (r2 : Int) (w : World) (hr0 : Kd.C k58 w A0 l0.length l0) (hc0 : l0.length ≤ c0) (hr1 : Kd.C (Kd.int .i64) w A1 l1.length l1) (hc1 : l1.length ≤ c1) (hr2 : Kd.C (Kd.int .i64) w A2 l2.length l2) (hc2 : l2.length ≤ c2) (h : late_Delay.f l0 l1 l2 = some (r1, r2)) :
    Calls Try.prog 12 #[.slice A0 l0.length c0, .slice A1 l1.length c1, .slice A2 l2.length c2] w fun e w' => e = .returned (.tuple #[.int .i64 r1, .int .i64 r2]) ∧ Below w.heap.size w w' := by
  obtain ⟨k, hk⟩ := (Ends_ev l0 l1 l2).rounds
  unfold late_Delay.f at h
  have hu71 := Try.underlying71
  have hu58 := Try.underlying58
  by_cases h1 : endsErr l0 l1 l2 = 0
  · rw [if_pos h1] at h hk
    have h10 := late_Ends.calls k A0 c0 l0 A1 c1 l1 A2 c2 l2 _ _ w hr0 hc0 hr1 hc1 hr2 hc2 hk
    have hse : seqErr l0 l1 = 0 := by
      unfold endsErr at h1
      split at h1
      · assumption
      · assumption
    obtain ⟨hz1, hz2, hz3, hz4, hz5⟩ := seqErr_zero hse
    have hlen := checkO_len hz1
    have hel : (endsL l1 l2).length = l0.length := by rw [endsL_len]; exact hz2
    have HEL := Lib.hid hel
    clear hk h1 hse hz1 hz2 hz3 hz4 hz5 hel
    by_cases h2 : l0.length = 0
    · rw [if_pos h2] at h
      simp at h
      obtain ⟨rfl, rfl⟩ := h
      have h2' : ((l0.length : Int) == 0) = true := by simp [h2]
      clear h2
      go_enter Try.func12, Try.ntmps12
      go_wp2_with (go_at_call 10; refine h10.mono ?_; clear h10; rintro e w1 ⟨v1, rfl, hR, hb⟩)
      go_ret2
      exact ⟨rfl, hb⟩
    · rw [if_neg h2] at h
      simp at h
      obtain ⟨rfl, rfl⟩ := h
      have h2' : ((l0.length : Int) == 0) = false := by simp; intro h; exact h2 (by simp [h])
      have hpos : 0 < l0.length := by omega
      clear h2
      go_enter Try.func12, Try.ntmps12
      go_wp2_with (go_at_call 10; refine h10.mono ?_; clear h10; rintro e w1 ⟨v1, rfl, hR, hb⟩; obtain ⟨gv, cv, rfl, hgv, hgl, _⟩ := Kd.R_form hR (by rw [HEL.out]; exact hpos); rw [HEL.out]; rw [HEL.out] at hR; have HR1 := Lib.hid hR; have HB1 := Lib.hid hb; clear hR hb)
      go_loopw [29] (fun i wr => ∃ j : Nat, j ≤ l0.length ∧ i = .int .i64 j ∧ Hid (Kd.R (Kd.int .i64) 2 wr w.heap.size (fun _ => True) (.slice (some ⟨gv, 0, none⟩) l0.length cv) (delays l0 (endsL l1 l2) j)) ∧ Hid (Below w.heap.size w wr)) (fun i _ => l0.length - (intOf i).toNat)
      case atStart => exact ⟨0, Nat.zero_le _, rfl, HR1, HB1⟩
      case round =>
        obtain ⟨j, hj, rfl, HRj, HBj⟩ := hrel
        by_cases hjl : j < l0.length
        · obtain ⟨ad, rfl, q1, q2, q3⟩ := at_T58 (Kd.C_below hr0 HBj.out) j (by omega) (by omega)
          simp only [Int.toNat_natCast] at q1 q2 q3
          obtain ⟨q5, q6⟩ := Kd.R_celln (0 : Int) HRj.out (j : Int) (by omega) (by omega)
          replace q5 : wr.cell? ⟨gv, j, none⟩ = some (.int .i64 (rd (delays l0 (endsL l1 l2) j) j)) := q5
          replace q6 : wr.frozen? ⟨gv, j, none⟩ = false := q6
          have hgw : gv < wr.heap.size := World.block_lt_of_cell? _ _ q5
          have HPS : Hid (delays l0 (endsL l1 l2) (j + 1) = (delays l0 (endsL l1 l2) j).set j (wrap64 (rd (delays l0 (endsL l1 l2) j) j - (rd_T58 l0 j).f1))) := rfl
          generalize delays l0 (endsL l1 l2) j = ps at *
          go_wp2
          obtain ⟨W1, hW1⟩ : ∃ W1, W1 = wr.alloc (.cells #[.int .i64 (rd_T58 l0 j).f0.f0, .int .i64 (rd_T58 l0 j).f0.f1, .int .i64 (rd_T58 l0 j).f1] 58) := ⟨_, rfl⟩
          have e1 : W1.cell? ⟨gv, j, none⟩ = some (.int .i64 (rd ps j)) := by rw [hW1]; exact (World.cell?_alloc_lt _ _ _ (World.block_lt_of_cell? _ _ q5)).trans q5
          have e2 : W1.frozen? ⟨gv, j, none⟩ = false := by rw [hW1]; exact frz_keep hgw q6
          have b2 : W1.cell? ⟨wr.heap.size, 2, none⟩ = some (.int .i64 (rd_T58 l0 j).f1) := by rw [hW1]; go_simp
          have HW1 := Lib.hid hW1
          rw [← hW1]
          clear hW1
          go_region
          all_goals
            go_wp2
            refine ⟨⟨j + 1, by omega, by go_num, ?_, ?_⟩, by simp [intOf]; omega⟩
            · rw [HPS.out]
              have := Kd.R_putn (h1 := fun _ => rfl) (Kd.R_alloc HRj.out (.cells #[.int .i64 (rd_T58 l0 j).f0.f0, .int .i64 (rd_T58 l0 j).f0.f1, .int .i64 (rd_T58 l0 j).f1] 58)) (j : Int) (wrap64 (rd ps j - (rd_T58 l0 j).f1))
              rw [← HW1.out] at this
              exact Kd.R_drew this
            · have := (HBj.out.alloc HBj.out.size (.cells #[.int .i64 (rd_T58 l0 j).f0.f0, .int .i64 (rd_T58 l0 j).f0.f1, .int .i64 (rd_T58 l0 j).f1] 58))
              rw [← HW1.out] at this
              exact (this.setCell (p := ⟨gv, j, none⟩) hgv _).drew
        · obtain rfl : j = l0.length := by omega
          have hdl : (delays l0 (endsL l1 l2) l0.length).length = l0.length := by rw [delays_len, HEL.out]
          have hC := (Kd.R_reads' HRj.out).2.2
          have hcv := (Kd.R_reads' HRj.out).2.1
          have h46 := best46 (some ⟨gv, 0, none⟩) cv (delays l0 (endsL l1 l2) l0.length) wr hC (by rw [hdl]; exact hcv) (by rw [hdl]; exact hpos)
          rw [hdl] at h46
          clear hdl hC hcv
          go_wp2_with (go_at_call 46; refine h46.mono ?_; clear h46; rintro e w' ⟨rfl, rfl⟩)
          go_ret2
          exact ⟨rfl, HBj.out⟩
  · rw [if_neg h1] at h hk
    have h10 := late_Ends.calls k A0 c0 l0 A1 c1 l1 A2 c2 l2 _ _ w hr0 hc0 hr1 hc1 hr2 hc2 hk
    simp at h
    obtain ⟨rfl, rfl⟩ := h
    have hz : (endsErr l0 l1 l2 != 0) = true := by simpa using h1
    have hz' : (endsErr l0 l1 l2 == 0) = false := by simpa using h1
    clear h1 hk
    generalize endsErr l0 l1 l2 = q at *
    go_enter Try.func12, Try.ntmps12
    go_wp2_with (go_at_call 10; refine h10.mono ?_; clear h10; rintro e w1 ⟨v1, rfl, hR, hb⟩)
    go_ret2
    exact ⟨rfl, hb⟩

end Go.Proofs.Ytmlahfidnfdhbaa.Pr
namespace Go.Proofs.Ytmlahfidnfdhbaa.Pr
open Go.RowKit Go.Proofs.YtmlahfidnfdhbaaW.PrintWords Go.Proofs.YtmlahfidnfdhbaaW.PrintLast Go.Proofs.YtmlahfidnfdhbaaW.PrintMore

theorem byDueL_range (l : List S58) : AllP (fun x => 0 ≤ x ∧ x < l.length) (byDueL l) := by
  refine AllP_insTo _ _ _ (by rw [iota_len]; exact Nat.le_refl _) ?_
  intro x hx
  exact iota_mem.1 hx

/-- Are the numbers strictly increasing, from one on, and below n? -/
def upFrom (n : Int) : Int → List Int → Bool
  | _, [] => true
  | next, i :: r => within_ next (n - 1) [i] && upFrom n (i + 1) r
/-- Are all kept ones on time, one after another? -/
def scan (l : List S58) (ws kept : List Int) : Int → List Int → Bool
  | _, [] => true
  | day, i :: r => if kept.contains i = true then (if (rd_T58 l i).f1 < wrap64 (day + rd ws i) then false else scan l ws kept (wrap64 (day + rd ws i)) r) else scan l ws kept day r
def late_CheckKept.f (l0 : List (S58)) (a1 : Int) (l2 : List Int) : Option (Int) := some (
  if sideErr l0 a1 = 0 then (if upFrom l0.length 0 l2 = true then (if scan l0 (worksOf a1 l0) l2 0 (byDueL l0) = true then 0 else 12) else 2) else sideErr l0 a1)

theorem within_one (lo hi x : Int) : within_ lo hi [x] = true ↔ lo ≤ x ∧ x ≤ hi := by simp [within_]

theorem upFrom_len (n : Int) : ∀ (l : List Int) (x : Int), 0 ≤ x → x ≤ n → upFrom n x l = true → x + l.length ≤ n
  | [], x, _, h, _ => by simpa using h
  | y :: r, x, h0, h1, h => by
    simp only [upFrom, Bool.and_eq_true, within_one] at h
    have := upFrom_len n r (y + 1) (by omega) (by omega) h.2
    simp only [List.length_cons]
    omega

set_option maxRecDepth 100000 in
set_option maxHeartbeats 1000000 in
theorem late_CheckKept.calls (A0 : Option Addr) (c0 : Nat) (l0 : List (S58)) (a1 : Int) (A2 : Option Addr) (c2 : Nat) (l2 : List Int) (r : Int) (w : World) (hr0 : Kd.C k58 w A0 l0.length l0) (hc0 : l0.length ≤ c0) (hr2 : Kd.C (Kd.int .i64) w A2 l2.length l2) (hc2 : l2.length ≤ c2) (h : late_CheckKept.f l0 a1 l2 = some r) :
    Calls Try.prog 31 #[.slice A0 l0.length c0, .int .i64 a1, .slice A2 l2.length c2] w fun e w' => e = .returned (.int .i64 r) ∧ Below w.heap.size w w' := by
  unfold late_CheckKept.f at h
  have hu71 := Try.underlying71
  have hu73 := Try.underlying73
  have hu58 := Try.underlying58
  have hm2 : l2.length ≤ 9223372036854775807 := hr2.2.1
  by_cases h1 : sideErr l0 a1 = 0
  · rw [if_pos h1] at h
    have h56 := sided_ok A0 c0 l0 a1 w hr0 hc0 h1
    have hlen := checkO_len (sideErr_zero h1).1
    injection h with h
    have H := Lib.hid h
    clear h1 h
    go_enter Try.func31, Try.ntmps31
    go_wp2_with (go_at_call 56; refine h56.mono ?_; clear h56; rintro e w1 ⟨g, A1, c1, rfl, hD, hb⟩; have HD := Lib.hid hD; have HB := Lib.hid hb; clear hD hb)
    go_loopw [9, 26] (fun nx i wr => ∃ (j : Nat) (x : Int), j ≤ l2.length ∧ i = .int .i64 j ∧ nx = .int .i64 x ∧ 0 ≤ x ∧ x ≤ l0.length ∧ Hid (upFrom l0.length x (l2.drop j) = upFrom l0.length 0 l2) ∧ Hid (Below w1.heap.size w1 wr)) (fun _ i _ => l2.length - (intOf i).toNat)
    case atStart =>
      refine ⟨0, 0, Nat.zero_le _, rfl, rfl, by omega, by omega, ?_, ?_⟩
      · rfl
      · exact Below.refl _ _
    case round =>
      obtain ⟨j, x, hj, rfl, rfl, hx0, hx1, HU, HBj⟩ := hrel
      by_cases hjl : j < l2.length
      · obtain ⟨ad, rfl, q1⟩ := C_cell (Kd.C_below (Kd.C_below hr2 HB.out) HBj.out) j hjl
        have hds : l2.drop j = rd l2 j :: l2.drop (j + 1) := by rw [rd_get l2 j hjl]; exact List.drop_eq_getElem_cons hjl
        have HDS := Lib.hid hds; clear hds
        generalize hy : rd l2 j = y at *
        have HY := Lib.hid hy; clear hy
        have h42 : Calls Try.prog 42 #[.int .i64 x, .int .i64 ((l0.length : Int) - 1), .slice (some ⟨wr.heap.size, 0, none⟩) 1 1] _ _ := late_within.calls x ((l0.length : Int) - 1) (some ⟨wr.heap.size, 0, none⟩) 1 [y] (within_ x ((l0.length : Int) - 1) [y]) _ (C_lit wr 2 _ [y] #[.int .i64 y] rfl rfl (by simp)) (by simp) rfl
        cases hq : within_ x ((l0.length : Int) - 1) [y]
        · rw [hq] at h42
          have HQ := Lib.hid hq; clear hq
          go_wp2_with (go_at_call 42; refine h42.mono ?_; clear h42; rintro e w3 ⟨rfl, hb3⟩)
          go_ret
          refine ⟨ret_int ?_, ?_⟩
          · rw [← H.out, ← HU.out, HDS.out]
            simp [upFrom, HQ.out]
          · exact HB.out.trans (((HBj.out.alloc HBj.out.size _).trans (hb3.mono (by have := HBj.out.size; simp; omega))).mono HB.out.size)
        · rw [hq] at h42
          obtain ⟨hy1, hy2⟩ := (within_one _ _ _).1 hq
          have HQ := Lib.hid hq; clear hq
          go_wp2_with (go_at_call 42; refine h42.mono ?_; clear h42; rintro e w3 ⟨rfl, hb3⟩)
          refine ⟨⟨j + 1, y + 1, by omega, by go_num, by go_num, by omega, by omega, ?_, ?_⟩, by simp [intOf]; omega⟩
          · have := HU.out
            rw [HDS.out] at this
            show _ = _
            simpa [upFrom, HQ.out] using this
          · exact (HBj.out.alloc HBj.out.size _).trans (hb3.mono (by have := HBj.out.size; simp; omega))
      · obtain rfl : j = l2.length := by omega
        have hup : upFrom l0.length 0 l2 = true := by rw [← HU.out, List.drop_length]; rfl
        have H' : Hid ((if scan l0 (worksOf a1 l0) l2 0 (byDueL l0) = true then (0 : Int) else 12) = r) := by have := H.out; rw [if_pos hup] at this; exact this
        have hl2 := upFrom_len _ _ _ (by omega) (by omega) hup
        have hl2' : l2.length ≤ 10 := by omega
        clear hup hl2
        have hD2 := HD.out.below HBj.out
        obtain ⟨d0, d1, dho, dhk, dcap⟩ := hD2
        have HC5 := Lib.hid dhk
        have h52 := byDue52 A0 c0 l0 wr (by omega) dho
        have HL := Lib.hid (byDueL_len l0)
        have HBR := Lib.hid (byDueL_range l0)
        clear dho dhk
        go_wp2_with (go_at_call 52; refine h52.mono ?_; clear h52; rintro e w3 ⟨v3, rfl, hR3, hb3⟩; obtain ⟨A3, c3, rfl, _, hC3⟩ := Kd.R_reads hR3; rw [HL.out] at hC3; rw [HL.out]; have HC3 := Lib.hid hC3; have HB3 := Lib.hid hb3; clear hC3 hR3 hb3)
        go_loopw [12, 47] (fun s i wq => ∃ (j : Nat) (x : Int), j ≤ l0.length ∧ i = .int .i64 j ∧ s = .int .i64 x ∧ Hid (scan l0 (worksOf a1 l0) l2 x ((byDueL l0).drop j) = scan l0 (worksOf a1 l0) l2 0 (byDueL l0)) ∧ Hid (Below w3.heap.size w3 wq)) (fun _ i _ => l0.length - (intOf i).toNat)
        case atStart =>
          refine ⟨0, 0, Nat.zero_le _, rfl, rfl, ?_, ?_⟩
          · rfl
          · exact Below.refl _ _
        case round =>
          obtain ⟨j, x, hj, rfl, rfl, HS, HBq⟩ := hrel
          have hB1 : Below w1.heap.size w1 wr := HBj.out.trans ((HB3.out.trans (HBq.out.mono HB3.out.size)).mono HBj.out.size)
          have HB1 := Lib.hid hB1; clear hB1
          by_cases hjl : j < l0.length
          · obtain ⟨ad, rfl, q1⟩ := C_cell (Kd.C_below HC3.out HBq.out) j hjl
            have hds : (byDueL l0).drop j = rd (byDueL l0) j :: (byDueL l0).drop (j + 1) := by rw [rd_get _ j (by rw [HL.out]; exact hjl)]; exact List.drop_eq_getElem_cons (by rw [HL.out]; exact hjl)
            have HDS := Lib.hid hds; clear hds
            obtain ⟨hy0, hy1⟩ := AllP_rd HBR.out j (by rw [HL.out]; exact hjl)
            obtain ⟨y, hy⟩ := Int.eq_ofNat_of_zero_le hy0
            rw [hy] at hy1 q1
            have HY := Lib.hid hy; clear hy hy0
            have hy2 : y < l0.length := by omega
            obtain ⟨kc, hkc⟩ := (contains_ev l2 y (by omega)).rounds
            have h65 := slices_Contains_int_int.calls kc A2 c2 l2 y _ wr (Kd.C_below (Kd.C_below hr2 HB.out) HB1.out) hc2 hkc
            have hS := HS.out
            rw [HDS.out, HY.out] at hS
            simp only [scan] at hS
            have HS2 := Lib.hid hS; clear hS hkc
            obtain ⟨d0, d1, dho, dhk, _⟩ := HD.out.below HB1.out
            obtain ⟨ad4, rfl, q4⟩ := C_cell dhk y hy2
            obtain ⟨ad0, rfl, q5, q6, q7⟩ := at_T58 dho y (by omega) (by omega)
            simp only [Int.toNat_natCast] at q5 q6 q7
            clear dhk dho
            cases hq : l2.contains (y : Int)
            · rw [hq] at h65 HS2
              clear hq
              go_wp2_with (go_at_call 65; refine h65.mono ?_; clear h65; rintro e w5 ⟨rfl, hd⟩; obtain ⟨nq, rfl⟩ := hd.out)
              refine ⟨⟨j + 1, x, by omega, by go_num, rfl, ?_, ?_⟩, by simp [intOf]; omega⟩
              · have := HS2.out
                show _ = _
                simpa using this
              · exact HBq.out.trans (pw_below_drewN (Below.refl _ _) _)
            · rw [hq] at h65 HS2
              clear hq
              by_cases hlate : (rd_T58 l0 y).f1 < wrap64 (x + rd (worksOf a1 l0) y)
              · go_wp2_with (go_at_call 65; refine h65.mono ?_; clear h65; rintro e w5 ⟨rfl, hd⟩; obtain ⟨nq, rfl⟩ := hd.out)
                go_ret
                refine ⟨ret_int ?_, ?_⟩
                · have := HS2.out
                  simp only [if_true, eq_self] at this
                  rw [if_pos hlate] at this
                  rw [← H'.out, ← this]
                  rfl
                · exact (HB.out.trans (HB1.out.mono HB.out.size)).trans ((pw_below_drewN (Below.refl _ _) _))
              · go_wp2_with (go_at_call 65; refine h65.mono ?_; clear h65; rintro e w5 ⟨rfl, hd⟩; obtain ⟨nq, rfl⟩ := hd.out)
                refine ⟨⟨j + 1, wrap64 (x + rd (worksOf a1 l0) y), by omega, by go_num, rfl, ?_, ?_⟩, by simp [intOf]; omega⟩
                · have := HS2.out
                  simp only [if_true, eq_self] at this
                  rw [if_neg (by omega)] at this
                  exact this
                · exact HBq.out.trans (pw_below_drewN (Below.refl _ _) _)
          · obtain rfl : j = l0.length := by omega
            have hs : scan l0 (worksOf a1 l0) l2 0 (byDueL l0) = true := by rw [← HS.out, List.drop_of_length_le (by rw [HL.out]; exact Nat.le_refl _)]; rfl
            have hH := H'.out
            rw [if_pos hs] at hH
            subst hH
            clear hs
            go_wp2
            go_ret
            exact ⟨rfl, HB.out.trans (HB1.out.mono HB.out.size)⟩
  · rw [if_neg h1] at h
    have h56 := sided_err A0 c0 l0 a1 w hr0 hc0 h1
    injection h with h
    subst h
    have hz : (sideErr l0 a1 != 0) = true := by simpa using h1
    have hz' : (sideErr l0 a1 == 0) = false := by simpa using h1
    clear h1
    generalize sideErr l0 a1 = q at *
    go_enter Try.func31, Try.ntmps31
    go_wp2_with (go_at_call 56; refine h56.mono ?_; clear h56; rintro e w1 ⟨rfl, hb⟩)
    go_ret
    exact ⟨rfl, hb⟩

end Go.Proofs.Ytmlahfidnfdhbaa.Pr
