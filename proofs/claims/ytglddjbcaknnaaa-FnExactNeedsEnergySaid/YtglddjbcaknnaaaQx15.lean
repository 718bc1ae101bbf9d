-- Written by the kit's print.py for all laws of the seat at once (one namespace), by a program of this session.
import Derived.Test.YtglddjbcaknnaaaQx0
import Derived.Test.YtglddjbcaknnaaaQx1
import Derived.Test.YtglddjbcaknnaaaQx4
import Derived.Test.YtglddjbcaknnaaaQx6
import Derived.Test.YtglddjbcaknnaaaQx7
namespace Go.Proofs.Ytglddjbcaknnaaa.Q
open Go.RowKit Go.Proofs.YtglddjbcaknnaaaW.PrintWords Go.Proofs.YtglddjbcaknnaaaW.PrintLast Go.Proofs.YtglddjbcaknnaaaW.PrintMore
attribute [local go_sem] max2_int min2_int max_two min_two max_three min_three max_four min_four   -- for this text's walks alone
set_option linter.unusedVariables false
set_option linter.unusedSimpArgs false

/-! ### spec_NeedsEnergy: function 26 -/
def spec_NeedsEnergy.l0 : Nat → List (S62) → List Int → Int → Int → Option (Int)
 | 0, _, _, _, _ => none
 | k + 1, x0, x1, x5, x6 => if x6 < (x0.length : Int) then (if 0 ≤ x6 then (if x6 < (x1.length : Int) then (spec_NeedsEnergy.l0 k x0 x1 (wrap64 (x5 + (wrap64 (((rd_T62 x0 x6).f4) * (rd x1 x6))))) (wrap64 (x6 + 1))) else (none)) else (none)) else (some (wrap64 (Int.tdiv x5 100)))
def spec_NeedsEnergy.f (k : Nat) (l0 : List (S62)) (l1 : List Int) : Option (Int) := (spec_l15Needs.f k l0 l1).bind fun t369 => (if t369 = true then (spec_NeedsEnergy.l0 k l0 l1 0 0) else (some (-1)))
theorem spec_NeedsEnergy.mono_l : ∀ k, (∀ y0 y1 y2 y3, LeO (spec_NeedsEnergy.l0 k y0 y1 y2 y3) (spec_NeedsEnergy.l0 (k + 1) y0 y1 y2 y3))
 | 0 => fun _ _ _ _ r h => by simp [spec_NeedsEnergy.l0] at h
 | k + 1 => by
  have ih0 := spec_NeedsEnergy.mono_l k
  ·intro y0 y1 y2 y3
   unfold spec_NeedsEnergy.l0
   repeat' first
   | (with_reducible exact ih0 _ _ _ _)
   | (with_reducible exact spec_l15Needs.mono _ _ _)
   | (with_reducible exact LeO.refl _)
   | (with_reducible exact LeO.none _)
   | (with_reducible refine LeO.ite ?_ ?_)
   | (with_reducible refine LeO.bind ?_ (fun _ => ?_))
   | exact ih0 _ _ _ _
   | exact spec_l15Needs.mono _ _ _
   | exact LeO.none _
   | refine LeO.ite ?_ ?_
   | refine LeO.bind ?_ (fun _ => ?_)
theorem spec_NeedsEnergy.mono : ∀ a0 a1 k, LeO (spec_NeedsEnergy.f k a0 a1) (spec_NeedsEnergy.f (k + 1) a0 a1) := by
 intro a0 a1 k
 have ih0 := spec_NeedsEnergy.mono_l k
 unfold spec_NeedsEnergy.f
 repeat' first
   | (with_reducible exact ih0 _ _ _ _)
   | (with_reducible exact spec_l15Needs.mono _ _ _)
   | (with_reducible exact LeO.refl _)
   | (with_reducible exact LeO.none _)
   | (with_reducible refine LeO.ite ?_ ?_)
   | (with_reducible refine LeO.bind ?_ (fun _ => ?_))
   | exact ih0 _ _ _ _
   | exact spec_l15Needs.mono _ _ _
   | exact LeO.none _
   | refine LeO.ite ?_ ?_
   | refine LeO.bind ?_ (fun _ => ?_)
set_option maxHeartbeats 8000000 in
set_option maxRecDepth 100000 in
theorem spec_NeedsEnergy.calls (k : Nat) (A0 : Option Addr) (c0 : Nat) (l0 : List (S62)) (A1 : Option Addr) (c1 : Nat) (l1 : List Int) (r : Int) (w : World) (hr0 : Kd.C k62 w A0 l0.length l0) (hc0 : l0.length ≤ c0) (hr1 : Kd.C (Kd.int .i64) w A1 l1.length l1) (hc1 : l1.length ≤ c1) (h : spec_NeedsEnergy.f k l0 l1 = some r) :
  Calls Try.prog 26 #[.slice A0 l0.length c0, .slice A1 l1.length c1] w fun e w' => e = .returned (.int .i64 r) ∧ Below w.heap.size w w' := by
 have HR0 := Aside0.mk hr0
 have HC0 := Aside0.mk hc0
 clear hr0 hc0
 have HR1 := Aside0.mk hr1
 have HC1 := Aside0.mk hc1
 clear hr1 hc1
 have HB := Aside0.mk (Below.refl w.heap.size w)
 have H : ((spec_l15Needs.f k l0 l1).bind fun t369 => (if t369 = true then (spec_NeedsEnergy.l0 k l0 l1 0 0) else (some (-1)))) = some r := h
 clear h
 replace H := Option.bind_eq_some_iff.mp H
 obtain ⟨t369, A30, H⟩ := H
 replace H : (if t369 = true then (spec_NeedsEnergy.l0 k l0 l1 0 0) else (some (-1))) = some r := H
 have A3 := Aside0.mk A30
 clear A30
 by_cases c4 : t369 = true
 ·subst c4
  have H1 : (spec_NeedsEnergy.l0 k l0 l1 0 0) = some r := by rw [if_pos rfl] at H; exact H
  clear H
  have H := H1
  clear H1
  have H' := Aside0.mk H
  clear H
  go_enter Try.func26, Try.ntmps26
  go_wp2_with (first | (go_at_call 44; (with_reducible refine (spec_l15Needs.calls k _ _ l0 _ _ l1 true _ ?side1 ?side2 ?side3 ?side4 A3.out).mono ?_); (case side1 => exact pS (HR0.out)); (case side2 => exact HC0.out); (case side3 => exact pS (HR1.out)); (case side4 => exact HC1.out); rintro e w5 ⟨rfl, hb⟩; have n0_ := Aside0.mk (below_step pB hb); clear HB; have HB := n0_; clear n0_; (try clear hb); (try clear hb2); (try clear hk); (try clear hi)))
  repeat (go_quiet (first | (go_at_call 44; (with_reducible refine (spec_l15Needs.calls k _ _ l0 _ _ l1 true _ ?side1 ?side2 ?side3 ?side4 A3.out).mono ?_); (case side1 => exact pS (HR0.out)); (case side2 => exact HC0.out); (case side3 => exact pS (HR1.out)); (case side4 => exact HC1.out); rintro e w5 ⟨rfl, hb⟩; have n0_ := Aside0.mk (below_step pB hb); clear HB; have HB := n0_; clear n0_; (try clear hb); (try clear hb2); (try clear hk); (try clear hi))); try go_wp2_with (first | (go_at_call 44; (with_reducible refine (spec_l15Needs.calls k _ _ l0 _ _ l1 true _ ?side1 ?side2 ?side3 ?side4 A3.out).mono ?_); (case side1 => exact pS (HR0.out)); (case side2 => exact HC0.out); (case side3 => exact pS (HR1.out)); (case side4 => exact HC1.out); rintro e w5 ⟨rfl, hb⟩; have n0_ := Aside0.mk (below_step pB hb); clear HB; have HB := n0_; clear n0_; (try clear hb); (try clear hb2); (try clear hk); (try clear hi))))
  go_loopg [5, 6] k (fun kq v5 v6 w' => ∃ (x5_1 : Int) (x6_1 : Int), v5 = .int .i64 x5_1 ∧ v6 = .int .i64 x6_1 ∧ Aside0 (spec_NeedsEnergy.l0 kq l0 l1 x5_1 x6_1 = some r) ∧ Aside0 (kq ≤ k) ∧ Aside0 (Below w.heap.size w w'))
  case atStart => exact ⟨(0), (0), pF, pF, H', ⟨Nat.le_refl _⟩, ⟨pB⟩⟩
  case round =>
   clear H'
   try clear c1
   try clear c2
   try clear p2
   try clear c4
   obtain ⟨x5_1, x6_1, rfl, rfl, HA, HK1, HB⟩ := hrel
   cases gk with
   | zero => exact absurd HA.out (by simp [spec_NeedsEnergy.l0])
   | succ k1 =>
    have H := HA.out
    clear HA
    simp only [spec_NeedsEnergy.l0] at H
    by_cases c6 : x6_1 < (l0.length : Int)
    ·rw [if_pos c6] at H
     have c6b0 : decide (x6_1 < (l0.length : Int)) = true := decide_eq_true c6
     clear c6
     by_cases c7 : 0 ≤ x6_1
     ·rw [if_pos c7] at H
      have c7b0 : decide (0 ≤ x6_1) = true := decide_eq_true c7
      clear c7
      by_cases c8 : x6_1 < (l1.length : Int)
      ·rw [if_pos c8] at H
       have c8b0 : decide (x6_1 < (l1.length : Int)) = true := decide_eq_true c8
       clear c8
       have H' := Aside0.mk H
       clear H
       have p370 : 0 ≤ (x6_1 : Int) := of_decide_eq_true pA
       have q370 : x6_1 < (l0.length : Int) := of_decide_eq_true pA
       obtain ⟨ad370, e370, hx370_0, hx370_1, hx370_2, hx370_3, hx370_4, hx370_5⟩ := at_T62 HR0.out x6_1 p370 q370
       cases e370
       replace hx370_0 := (HB.out.cell (World.block_lt_of_cell? w _ hx370_0)).trans hx370_0
       replace hx370_1 := (HB.out.cell (World.block_lt_of_cell? w _ hx370_1)).trans hx370_1
       replace hx370_2 := (HB.out.cell (World.block_lt_of_cell? w _ hx370_2)).trans hx370_2
       replace hx370_3 := (HB.out.cell (World.block_lt_of_cell? w _ hx370_3)).trans hx370_3
       replace hx370_4 := (HB.out.cell (World.block_lt_of_cell? w _ hx370_4)).trans hx370_4
       replace hx370_5 := (HB.out.cell (World.block_lt_of_cell? w _ hx370_5)).trans hx370_5
       replace p370 := eq_true p370
       replace q370 := eq_true q370
       have p371 : 0 ≤ (x6_1 : Int) := of_decide_eq_true pA
       have q371 : x6_1 < (l1.length : Int) := of_decide_eq_true pA
       obtain ⟨ad371, e371, hx371_0⟩ := Kd.at_int HR1.out x6_1 p371 q371
       cases e371
       replace hx371_0 := (HB.out.cell (World.block_lt_of_cell? w _ hx371_0)).trans hx371_0
       replace p371 := eq_true p371
       replace q371 := eq_true q371
       go_wp2
       repeat (go_quiet (fail); try go_wp2)
       go_roundg k1
       case measure => have := HK1.out; omega
       case rel => exact ⟨(wrap64 (x5_1 + (wrap64 (((rd_T62 l0 x6_1).f4) * (rd l1 x6_1))))), (wrap64 (x6_1 + 1)), pF, pF, H', ⟨by have := HK1.out; omega⟩, ⟨pB⟩⟩
      ·rw [if_neg c8] at H
       exact absurd H (by simp)
     ·rw [if_neg c7] at H
      exact absurd H (by simp)
    ·rw [if_neg c6] at H
     have c6b0 : decide (x6_1 < (l0.length : Int)) = false := decide_eq_false c6
     clear c6
     obtain rfl := Option.some.inj H
     go_wp2
     repeat (go_quiet (fail); try go_wp2)
     go_ret
     exact ⟨pE, pB⟩
 ·replace c4 := Bool.eq_false_iff.mpr c4
  subst c4
  have H1 : (some (-1)) = some r := by rw [if_neg (show ¬ (false = true) by decide)] at H; exact H
  clear H
  have H := H1
  clear H1
  obtain rfl := Option.some.inj H
  go_enter Try.func26, Try.ntmps26
  go_wp2_with (first | (go_at_call 44; (with_reducible refine (spec_l15Needs.calls k _ _ l0 _ _ l1 false _ ?side1 ?side2 ?side3 ?side4 A3.out).mono ?_); (case side1 => exact pS (HR0.out)); (case side2 => exact HC0.out); (case side3 => exact pS (HR1.out)); (case side4 => exact HC1.out); rintro e w9 ⟨rfl, hb⟩; have n0_ := Aside0.mk (below_step pB hb); clear HB; have HB := n0_; clear n0_; (try clear hb); (try clear hb2); (try clear hk); (try clear hi)))
  repeat (go_quiet (first | (go_at_call 44; (with_reducible refine (spec_l15Needs.calls k _ _ l0 _ _ l1 false _ ?side1 ?side2 ?side3 ?side4 A3.out).mono ?_); (case side1 => exact pS (HR0.out)); (case side2 => exact HC0.out); (case side3 => exact pS (HR1.out)); (case side4 => exact HC1.out); rintro e w9 ⟨rfl, hb⟩; have n0_ := Aside0.mk (below_step pB hb); clear HB; have HB := n0_; clear n0_; (try clear hb); (try clear hb2); (try clear hk); (try clear hi))); try go_wp2_with (first | (go_at_call 44; (with_reducible refine (spec_l15Needs.calls k _ _ l0 _ _ l1 false _ ?side1 ?side2 ?side3 ?side4 A3.out).mono ?_); (case side1 => exact pS (HR0.out)); (case side2 => exact HC0.out); (case side3 => exact pS (HR1.out)); (case side4 => exact HC1.out); rintro e w9 ⟨rfl, hb⟩; have n0_ := Aside0.mk (below_step pB hb); clear HB; have HB := n0_; clear n0_; (try clear hb); (try clear hb2); (try clear hk); (try clear hi))))
  go_ret
  exact ⟨pE, pB⟩

/-! ### impl_NeedsEnergy: function 27 -/
def impl_NeedsEnergy.l0 : Nat → List (S62) → Int → List Int → Int → Int → Option (Int)
 | 0, _, _, _, _, _ => none
 | k + 1, x0, x5, x12, x13, x14 => if x14 < x13 then (if 0 ≤ x14 then (if x14 < (x12.length : Int) then (if x14 < (x0.length : Int) then (impl_NeedsEnergy.l0 k x0 (wrap64 (x5 + (wrap64 ((rd x12 x14) * ((rd_T62 x0 x14).f4))))) x12 x13 (wrap64 (x14 + 1))) else (none)) else (none)) else (none)) else (some (wrap64 (Int.tdiv x5 100)))
def impl_NeedsEnergy.f (k : Nat) (l0 : List (S62)) (l1 : List Int) : Option (Int) := (impl_needsValid.f k l0 l1).bind fun t372 => (if t372 = true then (impl_NeedsEnergy.l0 k l0 0 l1 (l1.length : Int) 0) else (some (-1)))
theorem impl_NeedsEnergy.mono_l : ∀ k, (∀ y0 y1 y2 y3 y4, LeO (impl_NeedsEnergy.l0 k y0 y1 y2 y3 y4) (impl_NeedsEnergy.l0 (k + 1) y0 y1 y2 y3 y4))
 | 0 => fun _ _ _ _ _ r h => by simp [impl_NeedsEnergy.l0] at h
 | k + 1 => by
  have ih0 := impl_NeedsEnergy.mono_l k
  ·intro y0 y1 y2 y3 y4
   unfold impl_NeedsEnergy.l0
   repeat' first
   | (with_reducible exact ih0 _ _ _ _ _)
   | (with_reducible exact impl_needsValid.mono _ _ _)
   | (with_reducible exact LeO.refl _)
   | (with_reducible exact LeO.none _)
   | (with_reducible refine LeO.ite ?_ ?_)
   | (with_reducible refine LeO.bind ?_ (fun _ => ?_))
   | exact ih0 _ _ _ _ _
   | exact impl_needsValid.mono _ _ _
   | exact LeO.none _
   | refine LeO.ite ?_ ?_
   | refine LeO.bind ?_ (fun _ => ?_)
theorem impl_NeedsEnergy.mono : ∀ a0 a1 k, LeO (impl_NeedsEnergy.f k a0 a1) (impl_NeedsEnergy.f (k + 1) a0 a1) := by
 intro a0 a1 k
 have ih0 := impl_NeedsEnergy.mono_l k
 unfold impl_NeedsEnergy.f
 repeat' first
   | (with_reducible exact ih0 _ _ _ _ _)
   | (with_reducible exact impl_needsValid.mono _ _ _)
   | (with_reducible exact LeO.refl _)
   | (with_reducible exact LeO.none _)
   | (with_reducible refine LeO.ite ?_ ?_)
   | (with_reducible refine LeO.bind ?_ (fun _ => ?_))
   | exact ih0 _ _ _ _ _
   | exact impl_needsValid.mono _ _ _
   | exact LeO.none _
   | refine LeO.ite ?_ ?_
   | refine LeO.bind ?_ (fun _ => ?_)
set_option maxHeartbeats 8000000 in
set_option maxRecDepth 100000 in
theorem impl_NeedsEnergy.calls (k : Nat) (A0 : Option Addr) (c0 : Nat) (l0 : List (S62)) (A1 : Option Addr) (c1 : Nat) (l1 : List Int) (r : Int) (w : World) (hr0 : Kd.C k62 w A0 l0.length l0) (hc0 : l0.length ≤ c0) (hr1 : Kd.C (Kd.int .i64) w A1 l1.length l1) (hc1 : l1.length ≤ c1) (h : impl_NeedsEnergy.f k l0 l1 = some r) :
  Calls Try.prog 27 #[.slice A0 l0.length c0, .slice A1 l1.length c1] w fun e w' => e = .returned (.int .i64 r) ∧ Below w.heap.size w w' := by
 have HR0 := Aside0.mk hr0
 have HC0 := Aside0.mk hc0
 clear hr0 hc0
 have HR1 := Aside0.mk hr1
 have HC1 := Aside0.mk hc1
 clear hr1 hc1
 have HB := Aside0.mk (Below.refl w.heap.size w)
 have H : ((impl_needsValid.f k l0 l1).bind fun t372 => (if t372 = true then (impl_NeedsEnergy.l0 k l0 0 l1 (l1.length : Int) 0) else (some (-1)))) = some r := h
 clear h
 replace H := Option.bind_eq_some_iff.mp H
 obtain ⟨t372, A30, H⟩ := H
 replace H : (if t372 = true then (impl_NeedsEnergy.l0 k l0 0 l1 (l1.length : Int) 0) else (some (-1))) = some r := H
 have A3 := Aside0.mk A30
 clear A30
 by_cases c4 : t372 = true
 ·subst c4
  have H1 : (impl_NeedsEnergy.l0 k l0 0 l1 (l1.length : Int) 0) = some r := by rw [if_pos rfl] at H; exact H
  clear H
  have H := H1
  clear H1
  have H' := Aside0.mk H
  clear H
  go_enter Try.func27, Try.ntmps27
  go_wp2_with (first | ((with_reducible refine gate_callee (f := 46) rfl ?_); refine goesL_ (some 10) rfl rfl Try.func46 pL rfl #[.slice A0 l0.length c0, .slice A1 l1.length c1] rfl pM ?_; (with_reducible refine (impl_needsValid.calls k _ _ l0 _ _ l1 true _ ?side1 ?side2 ?side3 ?side4 A3.out).mono ?_); (case side1 => exact pS (HR0.out)); (case side2 => exact HC0.out); (case side3 => exact pS (HR1.out)); (case side4 => exact HC1.out); rintro e w5 ⟨rfl, hb⟩; refine ⟨_, rfl, ?_⟩; have n0_ := Aside0.mk (below_step pB hb); clear HB; have HB := n0_; clear n0_; (try clear hb); (try clear hb2); (try clear hk); (try clear hi)))
  go_loopg [5, 14] k (fun kq v5 v14 w' => ∃ (x5_1 : Int) (x14_1 : Int), v5 = .int .i64 x5_1 ∧ v14 = .int .i64 x14_1 ∧ Aside0 (impl_NeedsEnergy.l0 kq l0 x5_1 l1 (l1.length : Int) x14_1 = some r) ∧ Aside0 (kq ≤ k) ∧ Aside0 (Below w.heap.size w w'))
  case atStart => exact ⟨(0), (0), pF, pF, H', ⟨Nat.le_refl _⟩, ⟨pB⟩⟩
  case round =>
   clear H'
   try clear c1
   try clear c2
   try clear p2
   try clear c4
   obtain ⟨x5_1, x14_1, rfl, rfl, HA, HK1, HB⟩ := hrel
   cases gk with
   | zero => exact absurd HA.out (by simp [impl_NeedsEnergy.l0])
   | succ k1 =>
    have H := HA.out
    clear HA
    simp only [impl_NeedsEnergy.l0] at H
    by_cases c6 : x14_1 < (l1.length : Int)
    ·rw [if_pos c6] at H
     have c6b0 : decide (x14_1 < (l1.length : Int)) = true := decide_eq_true c6
     clear c6
     by_cases c7 : 0 ≤ x14_1
     ·rw [if_pos c7] at H
      have c7b0 : decide (0 ≤ x14_1) = true := decide_eq_true c7
      clear c7
      by_cases c8 : x14_1 < (l1.length : Int)
      ·rw [if_pos c8] at H
       have c8b0 : decide (x14_1 < (l1.length : Int)) = true := decide_eq_true c8
       clear c8
       by_cases c9 : x14_1 < (l0.length : Int)
       ·rw [if_pos c9] at H
        have c9b0 : decide (x14_1 < (l0.length : Int)) = true := decide_eq_true c9
        clear c9
        have H' := Aside0.mk H
        clear H
        have p373 : 0 ≤ (x14_1 : Int) := of_decide_eq_true pA
        have q373 : x14_1 < (l1.length : Int) := of_decide_eq_true pA
        obtain ⟨ad373, e373, hx373_0⟩ := Kd.at_int HR1.out x14_1 p373 q373
        cases e373
        replace hx373_0 := (HB.out.cell (World.block_lt_of_cell? w _ hx373_0)).trans hx373_0
        replace p373 := eq_true p373
        replace q373 := eq_true q373
        have p374 : 0 ≤ (x14_1 : Int) := of_decide_eq_true pA
        have q374 : x14_1 < (l0.length : Int) := of_decide_eq_true pA
        obtain ⟨ad374, e374, hx374_0, hx374_1, hx374_2, hx374_3, hx374_4, hx374_5⟩ := at_T62 HR0.out x14_1 p374 q374
        cases e374
        replace hx374_0 := (HB.out.cell (World.block_lt_of_cell? w _ hx374_0)).trans hx374_0
        replace hx374_1 := (HB.out.cell (World.block_lt_of_cell? w _ hx374_1)).trans hx374_1
        replace hx374_2 := (HB.out.cell (World.block_lt_of_cell? w _ hx374_2)).trans hx374_2
        replace hx374_3 := (HB.out.cell (World.block_lt_of_cell? w _ hx374_3)).trans hx374_3
        replace hx374_4 := (HB.out.cell (World.block_lt_of_cell? w _ hx374_4)).trans hx374_4
        replace hx374_5 := (HB.out.cell (World.block_lt_of_cell? w _ hx374_5)).trans hx374_5
        replace p374 := eq_true p374
        replace q374 := eq_true q374
        go_wp2
        go_roundg k1
        case measure => have := HK1.out; omega
        case rel => exact ⟨(wrap64 (x5_1 + (wrap64 ((rd l1 x14_1) * ((rd_T62 l0 x14_1).f4))))), (wrap64 (x14_1 + 1)), pF, pF, H', ⟨by have := HK1.out; omega⟩, ⟨pB⟩⟩
       ·rw [if_neg c9] at H
        exact absurd H (by simp)
      ·rw [if_neg c8] at H
       exact absurd H (by simp)
     ·rw [if_neg c7] at H
      exact absurd H (by simp)
    ·rw [if_neg c6] at H
     have c6b0 : decide (x14_1 < (l1.length : Int)) = false := decide_eq_false c6
     clear c6
     obtain rfl := Option.some.inj H
     go_wp2
     go_ret
     exact ⟨pE, pB⟩
 ·replace c4 := Bool.eq_false_iff.mpr c4
  subst c4
  have H1 : (some (-1)) = some r := by rw [if_neg (show ¬ (false = true) by decide)] at H; exact H
  clear H
  have H := H1
  clear H1
  obtain rfl := Option.some.inj H
  go_enter Try.func27, Try.ntmps27
  go_wp2_with (first | ((with_reducible refine gate_callee (f := 46) rfl ?_); refine goesL_ (some 10) rfl rfl Try.func46 pL rfl #[.slice A0 l0.length c0, .slice A1 l1.length c1] rfl pM ?_; (with_reducible refine (impl_needsValid.calls k _ _ l0 _ _ l1 false _ ?side1 ?side2 ?side3 ?side4 A3.out).mono ?_); (case side1 => exact pS (HR0.out)); (case side2 => exact HC0.out); (case side3 => exact pS (HR1.out)); (case side4 => exact HC1.out); rintro e w10 ⟨rfl, hb⟩; refine ⟨_, rfl, ?_⟩; have n0_ := Aside0.mk (below_step pB hb); clear HB; have HB := n0_; clear n0_; (try clear hb); (try clear hb2); (try clear hk); (try clear hi)))
  go_ret
  exact ⟨pE, pB⟩

/-! ### laws_FnExactNeedsEnergy: function 6 -/
def laws_FnExactNeedsEnergy.f (k : Nat) (l0 : List (S65)) (l1 : List Int) : Option (Bool) := if (l1.length : Int) > 1048576 then (some true) else ((laws_szFoodS.f l0 1048576).bind fun t375 => (if t375 < 0 then (some true) else ((laws_toFoodS.f k l0).bind fun t376 => ((laws_toIntS.f k l1).bind fun t379 => ((spec_NeedsEnergy.f k t376 t379).bind fun t382 => ((laws_toFoodS.f k l0).bind fun t383 => ((laws_toIntS.f k l1).bind fun t386 => ((impl_NeedsEnergy.f k t383 t386).bind fun t389 => (if t389 = t382 then ((laws_toFoodS.f k l0).bind fun t390 => ((laws_eqFoodS.f k t383 t390).bind fun t393 => (if t393 = true then ((laws_toIntS.f k l1).bind fun t394 => ((laws_eqIntS.f k t386 t394).bind fun t397 => (if t397 = true then (some true) else (some false)))) else (some false)))) else (some false))))))))))
theorem laws_FnExactNeedsEnergy.mono : ∀ a0 a1 k, LeO (laws_FnExactNeedsEnergy.f k a0 a1) (laws_FnExactNeedsEnergy.f (k + 1) a0 a1) := by
 intro a0 a1 k
 unfold laws_FnExactNeedsEnergy.f
 repeat' first
   | (with_reducible exact impl_NeedsEnergy.mono _ _ _)
   | (with_reducible exact laws_eqFoodS.mono _ _ _)
   | (with_reducible exact laws_eqIntS.mono _ _ _)
   | (with_reducible exact laws_toFoodS.mono _ _)
   | (with_reducible exact laws_toIntS.mono _ _)
   | (with_reducible exact spec_NeedsEnergy.mono _ _ _)
   | (with_reducible exact LeO.refl _)
   | (with_reducible exact LeO.none _)
   | (with_reducible refine LeO.ite ?_ ?_)
   | (with_reducible refine LeO.bind ?_ (fun _ => ?_))
   | exact impl_NeedsEnergy.mono _ _ _
   | exact laws_eqFoodS.mono _ _ _
   | exact laws_eqIntS.mono _ _ _
   | exact laws_toFoodS.mono _ _
   | exact laws_toIntS.mono _ _
   | exact spec_NeedsEnergy.mono _ _ _
   | exact LeO.none _
   | refine LeO.ite ?_ ?_
   | refine LeO.bind ?_ (fun _ => ?_)
set_option maxHeartbeats 8000000 in
set_option maxRecDepth 100000 in
theorem laws_FnExactNeedsEnergy.calls (k : Nat) (A0 : Option Addr) (c0 : Nat) (l0 : List (S65)) (A1 : Option Addr) (c1 : Nat) (l1 : List Int) (r : Bool) (w : World) (hr0 : Kd.C k65 w A0 l0.length l0) (hc0 : l0.length ≤ c0) (hr1 : Kd.C (Kd.int .i64) w A1 l1.length l1) (hc1 : l1.length ≤ c1) (h : laws_FnExactNeedsEnergy.f k l0 l1 = some r) :
  Calls Try.prog 6 #[.slice A0 l0.length c0, .slice A1 l1.length c1] w fun e w' => e = .returned (.bool r) ∧ Below w.heap.size w w' := by
 have HR0 := Aside0.mk hr0
 have HC0 := Aside0.mk hc0
 clear hr0 hc0
 have HR1 := Aside0.mk hr1
 have HC1 := Aside0.mk hc1
 clear hr1 hc1
 have HB := Aside0.mk (Below.refl w.heap.size w)
 have H : (if (l1.length : Int) > 1048576 then (some true) else ((laws_szFoodS.f l0 1048576).bind fun t375 => (if t375 < 0 then (some true) else ((laws_toFoodS.f k l0).bind fun t376 => ((laws_toIntS.f k l1).bind fun t379 => ((spec_NeedsEnergy.f k t376 t379).bind fun t382 => ((laws_toFoodS.f k l0).bind fun t383 => ((laws_toIntS.f k l1).bind fun t386 => ((impl_NeedsEnergy.f k t383 t386).bind fun t389 => (if t389 = t382 then ((laws_toFoodS.f k l0).bind fun t390 => ((laws_eqFoodS.f k t383 t390).bind fun t393 => (if t393 = true then ((laws_toIntS.f k l1).bind fun t394 => ((laws_eqIntS.f k t386 t394).bind fun t397 => (if t397 = true then (some true) else (some false)))) else (some false)))) else (some false))))))))))) = some r := h
 clear h
 by_cases c3 : (l1.length : Int) > 1048576
 ·rw [if_pos c3] at H
  have c3b0 : decide (1048576 < (l1.length : Int)) = true := decide_eq_true c3
  have c3b1 : decide (1048576 < l1.length) = true := decide_eq_true (by omega)
  clear c3
  obtain rfl := Option.some.inj H
  go_enter Try.func6, Try.ntmps6
  go_wp2
  go_ret
  exact ⟨pE, pB⟩
 ·rw [if_neg c3] at H
  have c3b0 : decide (1048576 < (l1.length : Int)) = false := decide_eq_false c3
  have c3b1 : decide (1048576 < l1.length) = false := decide_eq_false (by omega)
  clear c3
  replace H := Option.bind_eq_some_iff.mp H
  obtain ⟨t375, A40, H⟩ := H
  replace H : (if t375 < 0 then (some true) else ((laws_toFoodS.f k l0).bind fun t376 => ((laws_toIntS.f k l1).bind fun t379 => ((spec_NeedsEnergy.f k t376 t379).bind fun t382 => ((laws_toFoodS.f k l0).bind fun t383 => ((laws_toIntS.f k l1).bind fun t386 => ((impl_NeedsEnergy.f k t383 t386).bind fun t389 => (if t389 = t382 then ((laws_toFoodS.f k l0).bind fun t390 => ((laws_eqFoodS.f k t383 t390).bind fun t393 => (if t393 = true then ((laws_toIntS.f k l1).bind fun t394 => ((laws_eqIntS.f k t386 t394).bind fun t397 => (if t397 = true then (some true) else (some false)))) else (some false)))) else (some false))))))))) = some r := H
  have A4 := Aside0.mk A40
  clear A40
  by_cases c5 : t375 < 0
  ·rw [if_pos c5] at H
   have c5b0 : decide (t375 < 0) = true := decide_eq_true c5
   clear c5
   obtain rfl := Option.some.inj H
   go_enter Try.func6, Try.ntmps6
   go_wp2_with (first | ((with_reducible refine gate_callee (f := 15) rfl ?_); refine goesL_ (some 15) rfl rfl Try.func15 pL rfl #[.slice A0 l0.length c0, .int .i64 1048576] rfl pM ?_; (with_reducible refine (laws_szFoodS.calls _ _ l0 1048576 t375 _ ?side1 ?side2 A4.out).mono ?_); (case side1 => exact pS (HR0.out)); (case side2 => exact HC0.out); rintro e w' ⟨rfl, ⟨nd, rfl⟩⟩; refine ⟨_, rfl, ?_⟩))
   go_ret
   exact ⟨pE, pB⟩
  ·rw [if_neg c5] at H
   have c5b0 : decide (t375 < 0) = false := decide_eq_false c5
   clear c5
   replace H := Option.bind_eq_some_iff.mp H
   obtain ⟨t376, A60, H⟩ := H
   replace H : ((laws_toIntS.f k l1).bind fun t379 => ((spec_NeedsEnergy.f k t376 t379).bind fun t382 => ((laws_toFoodS.f k l0).bind fun t383 => ((laws_toIntS.f k l1).bind fun t386 => ((impl_NeedsEnergy.f k t383 t386).bind fun t389 => (if t389 = t382 then ((laws_toFoodS.f k l0).bind fun t390 => ((laws_eqFoodS.f k t383 t390).bind fun t393 => (if t393 = true then ((laws_toIntS.f k l1).bind fun t394 => ((laws_eqIntS.f k t386 t394).bind fun t397 => (if t397 = true then (some true) else (some false)))) else (some false)))) else (some false))))))) = some r := H
   have A6 := Aside0.mk A60
   clear A60
   replace H := Option.bind_eq_some_iff.mp H
   obtain ⟨t379, A70, H⟩ := H
   replace H : ((spec_NeedsEnergy.f k t376 t379).bind fun t382 => ((laws_toFoodS.f k l0).bind fun t383 => ((laws_toIntS.f k l1).bind fun t386 => ((impl_NeedsEnergy.f k t383 t386).bind fun t389 => (if t389 = t382 then ((laws_toFoodS.f k l0).bind fun t390 => ((laws_eqFoodS.f k t383 t390).bind fun t393 => (if t393 = true then ((laws_toIntS.f k l1).bind fun t394 => ((laws_eqIntS.f k t386 t394).bind fun t397 => (if t397 = true then (some true) else (some false)))) else (some false)))) else (some false)))))) = some r := H
   have A7 := Aside0.mk A70
   clear A70
   replace H := Option.bind_eq_some_iff.mp H
   obtain ⟨t382, A80, H⟩ := H
   replace H : ((laws_toFoodS.f k l0).bind fun t383 => ((laws_toIntS.f k l1).bind fun t386 => ((impl_NeedsEnergy.f k t383 t386).bind fun t389 => (if t389 = t382 then ((laws_toFoodS.f k l0).bind fun t390 => ((laws_eqFoodS.f k t383 t390).bind fun t393 => (if t393 = true then ((laws_toIntS.f k l1).bind fun t394 => ((laws_eqIntS.f k t386 t394).bind fun t397 => (if t397 = true then (some true) else (some false)))) else (some false)))) else (some false))))) = some r := H
   have A8 := Aside0.mk A80
   clear A80
   replace H := Option.bind_eq_some_iff.mp H
   obtain ⟨t383, A90, H⟩ := H
   replace H : ((laws_toIntS.f k l1).bind fun t386 => ((impl_NeedsEnergy.f k t383 t386).bind fun t389 => (if t389 = t382 then ((laws_toFoodS.f k l0).bind fun t390 => ((laws_eqFoodS.f k t383 t390).bind fun t393 => (if t393 = true then ((laws_toIntS.f k l1).bind fun t394 => ((laws_eqIntS.f k t386 t394).bind fun t397 => (if t397 = true then (some true) else (some false)))) else (some false)))) else (some false)))) = some r := H
   have A9 := Aside0.mk A90
   clear A90
   replace H := Option.bind_eq_some_iff.mp H
   obtain ⟨t386, A100, H⟩ := H
   replace H : ((impl_NeedsEnergy.f k t383 t386).bind fun t389 => (if t389 = t382 then ((laws_toFoodS.f k l0).bind fun t390 => ((laws_eqFoodS.f k t383 t390).bind fun t393 => (if t393 = true then ((laws_toIntS.f k l1).bind fun t394 => ((laws_eqIntS.f k t386 t394).bind fun t397 => (if t397 = true then (some true) else (some false)))) else (some false)))) else (some false))) = some r := H
   have A10 := Aside0.mk A100
   clear A100
   replace H := Option.bind_eq_some_iff.mp H
   obtain ⟨t389, A110, H⟩ := H
   replace H : (if t389 = t382 then ((laws_toFoodS.f k l0).bind fun t390 => ((laws_eqFoodS.f k t383 t390).bind fun t393 => (if t393 = true then ((laws_toIntS.f k l1).bind fun t394 => ((laws_eqIntS.f k t386 t394).bind fun t397 => (if t397 = true then (some true) else (some false)))) else (some false)))) else (some false)) = some r := H
   have A11 := Aside0.mk A110
   clear A110
   by_cases c12 : t389 = t382
   ·rw [if_pos c12] at H
    have c12b0 : (t389 == t382) = true := beq_iff_eq.mpr c12
    have c12b1 : (t389 != t382) = false := bne_eq_false_iff_eq.mpr c12
    clear c12
    replace H := Option.bind_eq_some_iff.mp H
    obtain ⟨t390, A130, H⟩ := H
    replace H : ((laws_eqFoodS.f k t383 t390).bind fun t393 => (if t393 = true then ((laws_toIntS.f k l1).bind fun t394 => ((laws_eqIntS.f k t386 t394).bind fun t397 => (if t397 = true then (some true) else (some false)))) else (some false))) = some r := H
    have A13 := Aside0.mk A130
    clear A130
    replace H := Option.bind_eq_some_iff.mp H
    obtain ⟨t393, A140, H⟩ := H
    replace H : (if t393 = true then ((laws_toIntS.f k l1).bind fun t394 => ((laws_eqIntS.f k t386 t394).bind fun t397 => (if t397 = true then (some true) else (some false)))) else (some false)) = some r := H
    have A14 := Aside0.mk A140
    clear A140
    by_cases c15 : t393 = true
    ·subst c15
     have H1 : ((laws_toIntS.f k l1).bind fun t394 => ((laws_eqIntS.f k t386 t394).bind fun t397 => (if t397 = true then (some true) else (some false)))) = some r := by rw [if_pos rfl] at H; exact H
     clear H
     have H := H1
     clear H1
     replace H := Option.bind_eq_some_iff.mp H
     obtain ⟨t394, A160, H⟩ := H
     replace H : ((laws_eqIntS.f k t386 t394).bind fun t397 => (if t397 = true then (some true) else (some false))) = some r := H
     have A16 := Aside0.mk A160
     clear A160
     replace H := Option.bind_eq_some_iff.mp H
     obtain ⟨t397, A170, H⟩ := H
     replace H : (if t397 = true then (some true) else (some false)) = some r := H
     have A17 := Aside0.mk A170
     clear A170
     by_cases c18 : t397 = true
     ·subst c18
      have H1 : (some true) = some r := by rw [if_pos rfl] at H; exact H
      clear H
      have H := H1
      clear H1
      obtain rfl := Option.some.inj H
      go_enter Try.func6, Try.ntmps6
      go_wp2_with (first | ((with_reducible refine gate_callee (f := 15) rfl ?_); refine goesL_ (some 15) rfl rfl Try.func15 pL rfl #[.slice A0 l0.length c0, .int .i64 1048576] rfl pM ?_; (with_reducible refine (laws_szFoodS.calls _ _ l0 1048576 t375 _ ?side1 ?side2 A4.out).mono ?_); (case side1 => exact pS (HR0.out)); (case side2 => exact HC0.out); rintro e w' ⟨rfl, ⟨nd, rfl⟩⟩; refine ⟨_, rfl, ?_⟩) | ((with_reducible refine gate_callee (f := 17) rfl ?_); refine goesL_ (some 19) rfl rfl Try.func17 pL rfl #[.slice A0 l0.length c0] rfl pM ?_; (with_reducible refine (laws_toFoodS.calls k _ _ l0 t376 _ ?side1 ?side2 A6.out).mono ?_); (case side1 => exact pS (HR0.out)); (case side2 => exact HC0.out); rintro e w19 ⟨v377, rfl, ho0, hb⟩; refine ⟨_, rfl, ?_⟩; have n0_ := Aside0.mk (Kd.R_lower ho0 (below_size pB)); have n1_ := Aside0.mk (below_step pB hb); clear HB; have HO378 := n0_; have HB := n1_; clear n0_ n1_; (try clear hb); (try clear hb2); (try clear hk); (try clear hi); (try clear ho0)) | ((with_reducible refine gate_callee (f := 18) rfl ?_); refine goesL_ (some 21) rfl rfl Try.func18 pL rfl #[.slice A1 l1.length c1] rfl pM ?_; (with_reducible refine (laws_toIntS.calls k _ _ l1 t379 _ ?side1 ?side2 A7.out).mono ?_); (case side1 => exact pS ((Kd.C_below HR1.out HB.out))); (case side2 => exact HC1.out); rintro e w20 ⟨v380, rfl, ho0, hb⟩; refine ⟨_, rfl, ?_⟩; have n0_ := Aside0.mk (Kd.R_below (pR HO378) hb); have n1_ := Aside0.mk (Kd.R_lower ho0 (below_size pB)); have n2_ := Aside0.mk (below_step pB hb); clear HO378; clear HB; have HO378 := n0_; have HO381 := n1_; have HB := n2_; clear n0_ n1_ n2_; (try clear hb); (try clear hb2); (try clear hk); (try clear hi); (try clear ho0); obtain ⟨Ao21, co21, eo21⟩ := Kd.R_slice HO378.out; subst eo21; obtain ⟨Ao22, co22, eo22⟩ := Kd.R_slice HO381.out; subst eo22) | ((with_reducible refine gate_callee (f := 26) rfl ?_); refine goesL_ (some 22) rfl rfl Try.func26 pL rfl #[.slice Ao21 t376.length co21, .slice Ao22 t379.length co22] rfl pM ?_; (with_reducible refine (spec_NeedsEnergy.calls k _ _ t376 _ _ t379 t382 _ ?side1 ?side2 ?side3 ?side4 A8.out).mono ?_); (case side1 => exact pS ((Kd.R_reads' HO378.out).2.2)); (case side2 => exact (Kd.R_reads' HO378.out).2.1); (case side3 => exact pS ((Kd.R_reads' HO381.out).2.2)); (case side4 => exact (Kd.R_reads' HO381.out).2.1); rintro e w23 ⟨rfl, hb⟩; refine ⟨_, rfl, ?_⟩; have n0_ := Aside0.mk (Kd.R_below (pR HO378) hb); have n1_ := Aside0.mk (Kd.R_below (pR HO381) hb); have n2_ := Aside0.mk (below_step pB hb); clear HO378; clear HO381; clear HB; have HO378 := n0_; have HO381 := n1_; have HB := n2_; clear n0_ n1_ n2_; (try clear hb); (try clear hb2); (try clear hk); (try clear hi)) | ((with_reducible refine gate_callee (f := 17) rfl ?_); refine goesL_ (some 24) rfl rfl Try.func17 pL rfl #[.slice A0 l0.length c0] rfl pM ?_; (with_reducible refine (laws_toFoodS.calls k _ _ l0 t383 _ ?side1 ?side2 A9.out).mono ?_); (case side1 => exact pS ((Kd.C_below HR0.out HB.out))); (case side2 => exact HC0.out); rintro e w24 ⟨v384, rfl, ho0, hb⟩; refine ⟨_, rfl, ?_⟩; have n0_ := Aside0.mk (Kd.R_elder' (pR HO378) (Kd.R_base ho0) hb); have n1_ := Aside0.mk (Kd.R_below (pR HO381) hb); have n2_ := Aside0.mk (Kd.R_lower (Kd.R_new' ho0 (Kd.R_lt (pR HO378))) (below_size pB)); have n3_ := Aside0.mk (below_step pB hb); clear HO378; clear HO381; clear HB; have HO378 := n0_; have HO381 := n1_; have HO385 := n2_; have HB := n3_; clear n0_ n1_ n2_ n3_; (try clear hb); (try clear hb2); (try clear hk); (try clear hi); (try clear ho0)) | ((with_reducible refine gate_callee (f := 18) rfl ?_); refine goesL_ (some 26) rfl rfl Try.func18 pL rfl #[.slice A1 l1.length c1] rfl pM ?_; (with_reducible refine (laws_toIntS.calls k _ _ l1 t386 _ ?side1 ?side2 A10.out).mono ?_); (case side1 => exact pS ((Kd.C_below HR1.out HB.out))); (case side2 => exact HC1.out); rintro e w25 ⟨v387, rfl, ho0, hb⟩; refine ⟨_, rfl, ?_⟩; have n0_ := Aside0.mk (Kd.R_below (pR HO378) hb); have n1_ := Aside0.mk (Kd.R_elder' (pR HO381) (Kd.R_base ho0) hb); have n2_ := Aside0.mk (Kd.R_below (pR HO385) hb); have n3_ := Aside0.mk (Kd.R_lower (Kd.R_new' ho0 (Kd.R_lt (pR HO381))) (below_size pB)); have n4_ := Aside0.mk (below_step pB hb); clear HO378; clear HO381; clear HO385; clear HB; have HO378 := n0_; have HO381 := n1_; have HO385 := n2_; have HO388 := n3_; have HB := n4_; clear n0_ n1_ n2_ n3_ n4_; (try clear hb); (try clear hb2); (try clear hk); (try clear hi); (try clear ho0); obtain ⟨Ao26, co26, eo26⟩ := Kd.R_slice HO385.out; subst eo26; obtain ⟨Ao27, co27, eo27⟩ := Kd.R_slice HO388.out; subst eo27) | ((with_reducible refine gate_callee (f := 27) rfl ?_); refine goesL_ (some 29) rfl rfl Try.func27 pL rfl #[.slice Ao26 t383.length co26, .slice Ao27 t386.length co27] rfl pM ?_; (with_reducible refine (impl_NeedsEnergy.calls k _ _ t383 _ _ t386 t389 _ ?side1 ?side2 ?side3 ?side4 A11.out).mono ?_); (case side1 => exact pS ((Kd.R_reads' HO385.out).2.2)); (case side2 => exact (Kd.R_reads' HO385.out).2.1); (case side3 => exact pS ((Kd.R_reads' HO388.out).2.2)); (case side4 => exact (Kd.R_reads' HO388.out).2.1); rintro e w28 ⟨rfl, hb⟩; refine ⟨_, rfl, ?_⟩; have n0_ := Aside0.mk (Kd.R_below (pR HO378) hb); have n1_ := Aside0.mk (Kd.R_below (pR HO381) hb); have n2_ := Aside0.mk (Kd.R_below (pR HO385) hb); have n3_ := Aside0.mk (Kd.R_below (pR HO388) hb); have n4_ := Aside0.mk (below_step pB hb); clear HO378; clear HO381; clear HO385; clear HO388; clear HB; have HO378 := n0_; have HO381 := n1_; have HO385 := n2_; have HO388 := n3_; have HB := n4_; clear n0_ n1_ n2_ n3_ n4_; (try clear hb); (try clear hb2); (try clear hk); (try clear hi)) | ((with_reducible refine gate_callee (f := 17) rfl ?_); refine goesL_ (some 35) rfl rfl Try.func17 pL rfl #[.slice A0 l0.length c0] rfl pM ?_; (with_reducible refine (laws_toFoodS.calls k _ _ l0 t390 _ ?side1 ?side2 A13.out).mono ?_); (case side1 => exact pS ((Kd.C_below HR0.out HB.out))); (case side2 => exact HC0.out); rintro e w29 ⟨v391, rfl, ho0, hb⟩; refine ⟨_, rfl, ?_⟩; have n0_ := Aside0.mk (Kd.R_elder' (pR HO378) (Kd.R_base ho0) hb); have n1_ := Aside0.mk (Kd.R_below (pR HO381) hb); have n2_ := Aside0.mk (Kd.R_elder' (pR HO385) (Kd.R_base ho0) hb); have n3_ := Aside0.mk (Kd.R_below (pR HO388) hb); have n4_ := Aside0.mk (Kd.R_lower (Kd.R_new' (Kd.R_new' ho0 (Kd.R_lt (pR HO378))) (Kd.R_lt (pR HO385))) (below_size pB)); have n5_ := Aside0.mk (below_step pB hb); clear HO378; clear HO381; clear HO385; clear HO388; clear HB; have HO378 := n0_; have HO381 := n1_; have HO385 := n2_; have HO388 := n3_; have HO392 := n4_; have HB := n5_; clear n0_ n1_ n2_ n3_ n4_ n5_; (try clear hb); (try clear hb2); (try clear hk); (try clear hi); (try clear ho0); obtain ⟨Ao30, co30, eo30⟩ := Kd.R_slice HO392.out; subst eo30) | ((with_reducible refine gate_callee (f := 20) rfl ?_); refine goesL_ (some 36) rfl rfl Try.func20 pL rfl #[.slice Ao26 t383.length co26, .slice Ao30 t390.length co30] rfl pM ?_; (with_reducible refine (laws_eqFoodS.calls k _ _ t383 _ _ t390 true _ ?side1 ?side2 ?side3 ?side4 A14.out).mono ?_); (case side1 => exact pS ((Kd.R_reads' HO385.out).2.2)); (case side2 => exact (Kd.R_reads' HO385.out).2.1); (case side3 => exact pS ((Kd.R_reads' HO392.out).2.2)); (case side4 => exact (Kd.R_reads' HO392.out).2.1); rintro e w31 ⟨rfl, hb⟩; refine ⟨_, rfl, ?_⟩; have n0_ := Aside0.mk (Kd.R_below (pR HO378) hb); have n1_ := Aside0.mk (Kd.R_below (pR HO381) hb); have n2_ := Aside0.mk (Kd.R_below (pR HO385) hb); have n3_ := Aside0.mk (Kd.R_below (pR HO388) hb); have n4_ := Aside0.mk (Kd.R_below (pR HO392) hb); have n5_ := Aside0.mk (below_step pB hb); clear HO378; clear HO381; clear HO385; clear HO388; clear HO392; clear HB; have HO378 := n0_; have HO381 := n1_; have HO385 := n2_; have HO388 := n3_; have HO392 := n4_; have HB := n5_; clear n0_ n1_ n2_ n3_ n4_ n5_; (try clear hb); (try clear hb2); (try clear hk); (try clear hi)) | ((with_reducible refine gate_callee (f := 18) rfl ?_); refine goesL_ (some 40) rfl rfl Try.func18 pL rfl #[.slice A1 l1.length c1] rfl pM ?_; (with_reducible refine (laws_toIntS.calls k _ _ l1 t394 _ ?side1 ?side2 A16.out).mono ?_); (case side1 => exact pS ((Kd.C_below HR1.out HB.out))); (case side2 => exact HC1.out); rintro e w32 ⟨v395, rfl, ho0, hb⟩; refine ⟨_, rfl, ?_⟩; have n0_ := Aside0.mk (Kd.R_below (pR HO378) hb); have n1_ := Aside0.mk (Kd.R_elder' (pR HO381) (Kd.R_base ho0) hb); have n2_ := Aside0.mk (Kd.R_below (pR HO385) hb); have n3_ := Aside0.mk (Kd.R_elder' (pR HO388) (Kd.R_base ho0) hb); have n4_ := Aside0.mk (Kd.R_below (pR HO392) hb); have n5_ := Aside0.mk (Kd.R_lower (Kd.R_new' (Kd.R_new' ho0 (Kd.R_lt (pR HO381))) (Kd.R_lt (pR HO388))) (below_size pB)); have n6_ := Aside0.mk (below_step pB hb); clear HO378; clear HO381; clear HO385; clear HO388; clear HO392; clear HB; have HO378 := n0_; have HO381 := n1_; have HO385 := n2_; have HO388 := n3_; have HO392 := n4_; have HO396 := n5_; have HB := n6_; clear n0_ n1_ n2_ n3_ n4_ n5_ n6_; (try clear hb); (try clear hb2); (try clear hk); (try clear hi); (try clear ho0); obtain ⟨Ao33, co33, eo33⟩ := Kd.R_slice HO396.out; subst eo33) | ((with_reducible refine gate_callee (f := 21) rfl ?_); refine goesL_ (some 41) rfl rfl Try.func21 pL rfl #[.slice Ao27 t386.length co27, .slice Ao33 t394.length co33] rfl pM ?_; (with_reducible refine (laws_eqIntS.calls k _ _ t386 _ _ t394 true _ ?side1 ?side2 ?side3 ?side4 A17.out).mono ?_); (case side1 => exact pS ((Kd.R_reads' HO388.out).2.2)); (case side2 => exact (Kd.R_reads' HO388.out).2.1); (case side3 => exact pS ((Kd.R_reads' HO396.out).2.2)); (case side4 => exact (Kd.R_reads' HO396.out).2.1); rintro e w' ⟨rfl, ⟨nd, rfl⟩⟩; refine ⟨_, rfl, ?_⟩))
      go_ret
      exact ⟨pE, pB⟩
     ·replace c18 := Bool.eq_false_iff.mpr c18
      subst c18
      have H1 : (some false) = some r := by rw [if_neg (show ¬ (false = true) by decide)] at H; exact H
      clear H
      have H := H1
      clear H1
      obtain rfl := Option.some.inj H
      go_enter Try.func6, Try.ntmps6
      go_wp2_with (first | ((with_reducible refine gate_callee (f := 15) rfl ?_); refine goesL_ (some 15) rfl rfl Try.func15 pL rfl #[.slice A0 l0.length c0, .int .i64 1048576] rfl pM ?_; (with_reducible refine (laws_szFoodS.calls _ _ l0 1048576 t375 _ ?side1 ?side2 A4.out).mono ?_); (case side1 => exact pS (HR0.out)); (case side2 => exact HC0.out); rintro e w' ⟨rfl, ⟨nd, rfl⟩⟩; refine ⟨_, rfl, ?_⟩) | ((with_reducible refine gate_callee (f := 17) rfl ?_); refine goesL_ (some 19) rfl rfl Try.func17 pL rfl #[.slice A0 l0.length c0] rfl pM ?_; (with_reducible refine (laws_toFoodS.calls k _ _ l0 t376 _ ?side1 ?side2 A6.out).mono ?_); (case side1 => exact pS (HR0.out)); (case side2 => exact HC0.out); rintro e w34 ⟨v377, rfl, ho0, hb⟩; refine ⟨_, rfl, ?_⟩; have n0_ := Aside0.mk (Kd.R_lower ho0 (below_size pB)); have n1_ := Aside0.mk (below_step pB hb); clear HB; have HO378 := n0_; have HB := n1_; clear n0_ n1_; (try clear hb); (try clear hb2); (try clear hk); (try clear hi); (try clear ho0)) | ((with_reducible refine gate_callee (f := 18) rfl ?_); refine goesL_ (some 21) rfl rfl Try.func18 pL rfl #[.slice A1 l1.length c1] rfl pM ?_; (with_reducible refine (laws_toIntS.calls k _ _ l1 t379 _ ?side1 ?side2 A7.out).mono ?_); (case side1 => exact pS ((Kd.C_below HR1.out HB.out))); (case side2 => exact HC1.out); rintro e w35 ⟨v380, rfl, ho0, hb⟩; refine ⟨_, rfl, ?_⟩; have n0_ := Aside0.mk (Kd.R_below (pR HO378) hb); have n1_ := Aside0.mk (Kd.R_lower ho0 (below_size pB)); have n2_ := Aside0.mk (below_step pB hb); clear HO378; clear HB; have HO378 := n0_; have HO381 := n1_; have HB := n2_; clear n0_ n1_ n2_; (try clear hb); (try clear hb2); (try clear hk); (try clear hi); (try clear ho0); obtain ⟨Ao36, co36, eo36⟩ := Kd.R_slice HO378.out; subst eo36; obtain ⟨Ao37, co37, eo37⟩ := Kd.R_slice HO381.out; subst eo37) | ((with_reducible refine gate_callee (f := 26) rfl ?_); refine goesL_ (some 22) rfl rfl Try.func26 pL rfl #[.slice Ao36 t376.length co36, .slice Ao37 t379.length co37] rfl pM ?_; (with_reducible refine (spec_NeedsEnergy.calls k _ _ t376 _ _ t379 t382 _ ?side1 ?side2 ?side3 ?side4 A8.out).mono ?_); (case side1 => exact pS ((Kd.R_reads' HO378.out).2.2)); (case side2 => exact (Kd.R_reads' HO378.out).2.1); (case side3 => exact pS ((Kd.R_reads' HO381.out).2.2)); (case side4 => exact (Kd.R_reads' HO381.out).2.1); rintro e w38 ⟨rfl, hb⟩; refine ⟨_, rfl, ?_⟩; have n0_ := Aside0.mk (Kd.R_below (pR HO378) hb); have n1_ := Aside0.mk (Kd.R_below (pR HO381) hb); have n2_ := Aside0.mk (below_step pB hb); clear HO378; clear HO381; clear HB; have HO378 := n0_; have HO381 := n1_; have HB := n2_; clear n0_ n1_ n2_; (try clear hb); (try clear hb2); (try clear hk); (try clear hi)) | ((with_reducible refine gate_callee (f := 17) rfl ?_); refine goesL_ (some 24) rfl rfl Try.func17 pL rfl #[.slice A0 l0.length c0] rfl pM ?_; (with_reducible refine (laws_toFoodS.calls k _ _ l0 t383 _ ?side1 ?side2 A9.out).mono ?_); (case side1 => exact pS ((Kd.C_below HR0.out HB.out))); (case side2 => exact HC0.out); rintro e w39 ⟨v384, rfl, ho0, hb⟩; refine ⟨_, rfl, ?_⟩; have n0_ := Aside0.mk (Kd.R_elder' (pR HO378) (Kd.R_base ho0) hb); have n1_ := Aside0.mk (Kd.R_below (pR HO381) hb); have n2_ := Aside0.mk (Kd.R_lower (Kd.R_new' ho0 (Kd.R_lt (pR HO378))) (below_size pB)); have n3_ := Aside0.mk (below_step pB hb); clear HO378; clear HO381; clear HB; have HO378 := n0_; have HO381 := n1_; have HO385 := n2_; have HB := n3_; clear n0_ n1_ n2_ n3_; (try clear hb); (try clear hb2); (try clear hk); (try clear hi); (try clear ho0)) | ((with_reducible refine gate_callee (f := 18) rfl ?_); refine goesL_ (some 26) rfl rfl Try.func18 pL rfl #[.slice A1 l1.length c1] rfl pM ?_; (with_reducible refine (laws_toIntS.calls k _ _ l1 t386 _ ?side1 ?side2 A10.out).mono ?_); (case side1 => exact pS ((Kd.C_below HR1.out HB.out))); (case side2 => exact HC1.out); rintro e w40 ⟨v387, rfl, ho0, hb⟩; refine ⟨_, rfl, ?_⟩; have n0_ := Aside0.mk (Kd.R_below (pR HO378) hb); have n1_ := Aside0.mk (Kd.R_elder' (pR HO381) (Kd.R_base ho0) hb); have n2_ := Aside0.mk (Kd.R_below (pR HO385) hb); have n3_ := Aside0.mk (Kd.R_lower (Kd.R_new' ho0 (Kd.R_lt (pR HO381))) (below_size pB)); have n4_ := Aside0.mk (below_step pB hb); clear HO378; clear HO381; clear HO385; clear HB; have HO378 := n0_; have HO381 := n1_; have HO385 := n2_; have HO388 := n3_; have HB := n4_; clear n0_ n1_ n2_ n3_ n4_; (try clear hb); (try clear hb2); (try clear hk); (try clear hi); (try clear ho0); obtain ⟨Ao41, co41, eo41⟩ := Kd.R_slice HO385.out; subst eo41; obtain ⟨Ao42, co42, eo42⟩ := Kd.R_slice HO388.out; subst eo42) | ((with_reducible refine gate_callee (f := 27) rfl ?_); refine goesL_ (some 29) rfl rfl Try.func27 pL rfl #[.slice Ao41 t383.length co41, .slice Ao42 t386.length co42] rfl pM ?_; (with_reducible refine (impl_NeedsEnergy.calls k _ _ t383 _ _ t386 t389 _ ?side1 ?side2 ?side3 ?side4 A11.out).mono ?_); (case side1 => exact pS ((Kd.R_reads' HO385.out).2.2)); (case side2 => exact (Kd.R_reads' HO385.out).2.1); (case side3 => exact pS ((Kd.R_reads' HO388.out).2.2)); (case side4 => exact (Kd.R_reads' HO388.out).2.1); rintro e w43 ⟨rfl, hb⟩; refine ⟨_, rfl, ?_⟩; have n0_ := Aside0.mk (Kd.R_below (pR HO378) hb); have n1_ := Aside0.mk (Kd.R_below (pR HO381) hb); have n2_ := Aside0.mk (Kd.R_below (pR HO385) hb); have n3_ := Aside0.mk (Kd.R_below (pR HO388) hb); have n4_ := Aside0.mk (below_step pB hb); clear HO378; clear HO381; clear HO385; clear HO388; clear HB; have HO378 := n0_; have HO381 := n1_; have HO385 := n2_; have HO388 := n3_; have HB := n4_; clear n0_ n1_ n2_ n3_ n4_; (try clear hb); (try clear hb2); (try clear hk); (try clear hi)) | ((with_reducible refine gate_callee (f := 17) rfl ?_); refine goesL_ (some 35) rfl rfl Try.func17 pL rfl #[.slice A0 l0.length c0] rfl pM ?_; (with_reducible refine (laws_toFoodS.calls k _ _ l0 t390 _ ?side1 ?side2 A13.out).mono ?_); (case side1 => exact pS ((Kd.C_below HR0.out HB.out))); (case side2 => exact HC0.out); rintro e w44 ⟨v391, rfl, ho0, hb⟩; refine ⟨_, rfl, ?_⟩; have n0_ := Aside0.mk (Kd.R_elder' (pR HO378) (Kd.R_base ho0) hb); have n1_ := Aside0.mk (Kd.R_below (pR HO381) hb); have n2_ := Aside0.mk (Kd.R_elder' (pR HO385) (Kd.R_base ho0) hb); have n3_ := Aside0.mk (Kd.R_below (pR HO388) hb); have n4_ := Aside0.mk (Kd.R_lower (Kd.R_new' (Kd.R_new' ho0 (Kd.R_lt (pR HO378))) (Kd.R_lt (pR HO385))) (below_size pB)); have n5_ := Aside0.mk (below_step pB hb); clear HO378; clear HO381; clear HO385; clear HO388; clear HB; have HO378 := n0_; have HO381 := n1_; have HO385 := n2_; have HO388 := n3_; have HO392 := n4_; have HB := n5_; clear n0_ n1_ n2_ n3_ n4_ n5_; (try clear hb); (try clear hb2); (try clear hk); (try clear hi); (try clear ho0); obtain ⟨Ao45, co45, eo45⟩ := Kd.R_slice HO392.out; subst eo45) | ((with_reducible refine gate_callee (f := 20) rfl ?_); refine goesL_ (some 36) rfl rfl Try.func20 pL rfl #[.slice Ao41 t383.length co41, .slice Ao45 t390.length co45] rfl pM ?_; (with_reducible refine (laws_eqFoodS.calls k _ _ t383 _ _ t390 true _ ?side1 ?side2 ?side3 ?side4 A14.out).mono ?_); (case side1 => exact pS ((Kd.R_reads' HO385.out).2.2)); (case side2 => exact (Kd.R_reads' HO385.out).2.1); (case side3 => exact pS ((Kd.R_reads' HO392.out).2.2)); (case side4 => exact (Kd.R_reads' HO392.out).2.1); rintro e w46 ⟨rfl, hb⟩; refine ⟨_, rfl, ?_⟩; have n0_ := Aside0.mk (Kd.R_below (pR HO378) hb); have n1_ := Aside0.mk (Kd.R_below (pR HO381) hb); have n2_ := Aside0.mk (Kd.R_below (pR HO385) hb); have n3_ := Aside0.mk (Kd.R_below (pR HO388) hb); have n4_ := Aside0.mk (Kd.R_below (pR HO392) hb); have n5_ := Aside0.mk (below_step pB hb); clear HO378; clear HO381; clear HO385; clear HO388; clear HO392; clear HB; have HO378 := n0_; have HO381 := n1_; have HO385 := n2_; have HO388 := n3_; have HO392 := n4_; have HB := n5_; clear n0_ n1_ n2_ n3_ n4_ n5_; (try clear hb); (try clear hb2); (try clear hk); (try clear hi)) | ((with_reducible refine gate_callee (f := 18) rfl ?_); refine goesL_ (some 40) rfl rfl Try.func18 pL rfl #[.slice A1 l1.length c1] rfl pM ?_; (with_reducible refine (laws_toIntS.calls k _ _ l1 t394 _ ?side1 ?side2 A16.out).mono ?_); (case side1 => exact pS ((Kd.C_below HR1.out HB.out))); (case side2 => exact HC1.out); rintro e w47 ⟨v395, rfl, ho0, hb⟩; refine ⟨_, rfl, ?_⟩; have n0_ := Aside0.mk (Kd.R_below (pR HO378) hb); have n1_ := Aside0.mk (Kd.R_elder' (pR HO381) (Kd.R_base ho0) hb); have n2_ := Aside0.mk (Kd.R_below (pR HO385) hb); have n3_ := Aside0.mk (Kd.R_elder' (pR HO388) (Kd.R_base ho0) hb); have n4_ := Aside0.mk (Kd.R_below (pR HO392) hb); have n5_ := Aside0.mk (Kd.R_lower (Kd.R_new' (Kd.R_new' ho0 (Kd.R_lt (pR HO381))) (Kd.R_lt (pR HO388))) (below_size pB)); have n6_ := Aside0.mk (below_step pB hb); clear HO378; clear HO381; clear HO385; clear HO388; clear HO392; clear HB; have HO378 := n0_; have HO381 := n1_; have HO385 := n2_; have HO388 := n3_; have HO392 := n4_; have HO396 := n5_; have HB := n6_; clear n0_ n1_ n2_ n3_ n4_ n5_ n6_; (try clear hb); (try clear hb2); (try clear hk); (try clear hi); (try clear ho0); obtain ⟨Ao48, co48, eo48⟩ := Kd.R_slice HO396.out; subst eo48) | ((with_reducible refine gate_callee (f := 21) rfl ?_); refine goesL_ (some 41) rfl rfl Try.func21 pL rfl #[.slice Ao42 t386.length co42, .slice Ao48 t394.length co48] rfl pM ?_; (with_reducible refine (laws_eqIntS.calls k _ _ t386 _ _ t394 false _ ?side1 ?side2 ?side3 ?side4 A17.out).mono ?_); (case side1 => exact pS ((Kd.R_reads' HO388.out).2.2)); (case side2 => exact (Kd.R_reads' HO388.out).2.1); (case side3 => exact pS ((Kd.R_reads' HO396.out).2.2)); (case side4 => exact (Kd.R_reads' HO396.out).2.1); rintro e w' ⟨rfl, ⟨nd, rfl⟩⟩; refine ⟨_, rfl, ?_⟩))
      go_ret
      exact ⟨pE, pB⟩
    ·replace c15 := Bool.eq_false_iff.mpr c15
     subst c15
     have H1 : (some false) = some r := by rw [if_neg (show ¬ (false = true) by decide)] at H; exact H
     clear H
     have H := H1
     clear H1
     obtain rfl := Option.some.inj H
     go_enter Try.func6, Try.ntmps6
     go_wp2_with (first | ((with_reducible refine gate_callee (f := 15) rfl ?_); refine goesL_ (some 15) rfl rfl Try.func15 pL rfl #[.slice A0 l0.length c0, .int .i64 1048576] rfl pM ?_; (with_reducible refine (laws_szFoodS.calls _ _ l0 1048576 t375 _ ?side1 ?side2 A4.out).mono ?_); (case side1 => exact pS (HR0.out)); (case side2 => exact HC0.out); rintro e w' ⟨rfl, ⟨nd, rfl⟩⟩; refine ⟨_, rfl, ?_⟩) | ((with_reducible refine gate_callee (f := 17) rfl ?_); refine goesL_ (some 19) rfl rfl Try.func17 pL rfl #[.slice A0 l0.length c0] rfl pM ?_; (with_reducible refine (laws_toFoodS.calls k _ _ l0 t376 _ ?side1 ?side2 A6.out).mono ?_); (case side1 => exact pS (HR0.out)); (case side2 => exact HC0.out); rintro e w49 ⟨v377, rfl, ho0, hb⟩; refine ⟨_, rfl, ?_⟩; have n0_ := Aside0.mk (Kd.R_lower ho0 (below_size pB)); have n1_ := Aside0.mk (below_step pB hb); clear HB; have HO378 := n0_; have HB := n1_; clear n0_ n1_; (try clear hb); (try clear hb2); (try clear hk); (try clear hi); (try clear ho0)) | ((with_reducible refine gate_callee (f := 18) rfl ?_); refine goesL_ (some 21) rfl rfl Try.func18 pL rfl #[.slice A1 l1.length c1] rfl pM ?_; (with_reducible refine (laws_toIntS.calls k _ _ l1 t379 _ ?side1 ?side2 A7.out).mono ?_); (case side1 => exact pS ((Kd.C_below HR1.out HB.out))); (case side2 => exact HC1.out); rintro e w50 ⟨v380, rfl, ho0, hb⟩; refine ⟨_, rfl, ?_⟩; have n0_ := Aside0.mk (Kd.R_below (pR HO378) hb); have n1_ := Aside0.mk (Kd.R_lower ho0 (below_size pB)); have n2_ := Aside0.mk (below_step pB hb); clear HO378; clear HB; have HO378 := n0_; have HO381 := n1_; have HB := n2_; clear n0_ n1_ n2_; (try clear hb); (try clear hb2); (try clear hk); (try clear hi); (try clear ho0); obtain ⟨Ao51, co51, eo51⟩ := Kd.R_slice HO378.out; subst eo51; obtain ⟨Ao52, co52, eo52⟩ := Kd.R_slice HO381.out; subst eo52) | ((with_reducible refine gate_callee (f := 26) rfl ?_); refine goesL_ (some 22) rfl rfl Try.func26 pL rfl #[.slice Ao51 t376.length co51, .slice Ao52 t379.length co52] rfl pM ?_; (with_reducible refine (spec_NeedsEnergy.calls k _ _ t376 _ _ t379 t382 _ ?side1 ?side2 ?side3 ?side4 A8.out).mono ?_); (case side1 => exact pS ((Kd.R_reads' HO378.out).2.2)); (case side2 => exact (Kd.R_reads' HO378.out).2.1); (case side3 => exact pS ((Kd.R_reads' HO381.out).2.2)); (case side4 => exact (Kd.R_reads' HO381.out).2.1); rintro e w53 ⟨rfl, hb⟩; refine ⟨_, rfl, ?_⟩; have n0_ := Aside0.mk (Kd.R_below (pR HO378) hb); have n1_ := Aside0.mk (Kd.R_below (pR HO381) hb); have n2_ := Aside0.mk (below_step pB hb); clear HO378; clear HO381; clear HB; have HO378 := n0_; have HO381 := n1_; have HB := n2_; clear n0_ n1_ n2_; (try clear hb); (try clear hb2); (try clear hk); (try clear hi)) | ((with_reducible refine gate_callee (f := 17) rfl ?_); refine goesL_ (some 24) rfl rfl Try.func17 pL rfl #[.slice A0 l0.length c0] rfl pM ?_; (with_reducible refine (laws_toFoodS.calls k _ _ l0 t383 _ ?side1 ?side2 A9.out).mono ?_); (case side1 => exact pS ((Kd.C_below HR0.out HB.out))); (case side2 => exact HC0.out); rintro e w54 ⟨v384, rfl, ho0, hb⟩; refine ⟨_, rfl, ?_⟩; have n0_ := Aside0.mk (Kd.R_elder' (pR HO378) (Kd.R_base ho0) hb); have n1_ := Aside0.mk (Kd.R_below (pR HO381) hb); have n2_ := Aside0.mk (Kd.R_lower (Kd.R_new' ho0 (Kd.R_lt (pR HO378))) (below_size pB)); have n3_ := Aside0.mk (below_step pB hb); clear HO378; clear HO381; clear HB; have HO378 := n0_; have HO381 := n1_; have HO385 := n2_; have HB := n3_; clear n0_ n1_ n2_ n3_; (try clear hb); (try clear hb2); (try clear hk); (try clear hi); (try clear ho0)) | ((with_reducible refine gate_callee (f := 18) rfl ?_); refine goesL_ (some 26) rfl rfl Try.func18 pL rfl #[.slice A1 l1.length c1] rfl pM ?_; (with_reducible refine (laws_toIntS.calls k _ _ l1 t386 _ ?side1 ?side2 A10.out).mono ?_); (case side1 => exact pS ((Kd.C_below HR1.out HB.out))); (case side2 => exact HC1.out); rintro e w55 ⟨v387, rfl, ho0, hb⟩; refine ⟨_, rfl, ?_⟩; have n0_ := Aside0.mk (Kd.R_below (pR HO378) hb); have n1_ := Aside0.mk (Kd.R_elder' (pR HO381) (Kd.R_base ho0) hb); have n2_ := Aside0.mk (Kd.R_below (pR HO385) hb); have n3_ := Aside0.mk (Kd.R_lower (Kd.R_new' ho0 (Kd.R_lt (pR HO381))) (below_size pB)); have n4_ := Aside0.mk (below_step pB hb); clear HO378; clear HO381; clear HO385; clear HB; have HO378 := n0_; have HO381 := n1_; have HO385 := n2_; have HO388 := n3_; have HB := n4_; clear n0_ n1_ n2_ n3_ n4_; (try clear hb); (try clear hb2); (try clear hk); (try clear hi); (try clear ho0); obtain ⟨Ao56, co56, eo56⟩ := Kd.R_slice HO385.out; subst eo56; obtain ⟨Ao57, co57, eo57⟩ := Kd.R_slice HO388.out; subst eo57) | ((with_reducible refine gate_callee (f := 27) rfl ?_); refine goesL_ (some 29) rfl rfl Try.func27 pL rfl #[.slice Ao56 t383.length co56, .slice Ao57 t386.length co57] rfl pM ?_; (with_reducible refine (impl_NeedsEnergy.calls k _ _ t383 _ _ t386 t389 _ ?side1 ?side2 ?side3 ?side4 A11.out).mono ?_); (case side1 => exact pS ((Kd.R_reads' HO385.out).2.2)); (case side2 => exact (Kd.R_reads' HO385.out).2.1); (case side3 => exact pS ((Kd.R_reads' HO388.out).2.2)); (case side4 => exact (Kd.R_reads' HO388.out).2.1); rintro e w58 ⟨rfl, hb⟩; refine ⟨_, rfl, ?_⟩; have n0_ := Aside0.mk (Kd.R_below (pR HO378) hb); have n1_ := Aside0.mk (Kd.R_below (pR HO381) hb); have n2_ := Aside0.mk (Kd.R_below (pR HO385) hb); have n3_ := Aside0.mk (Kd.R_below (pR HO388) hb); have n4_ := Aside0.mk (below_step pB hb); clear HO378; clear HO381; clear HO385; clear HO388; clear HB; have HO378 := n0_; have HO381 := n1_; have HO385 := n2_; have HO388 := n3_; have HB := n4_; clear n0_ n1_ n2_ n3_ n4_; (try clear hb); (try clear hb2); (try clear hk); (try clear hi)) | ((with_reducible refine gate_callee (f := 17) rfl ?_); refine goesL_ (some 35) rfl rfl Try.func17 pL rfl #[.slice A0 l0.length c0] rfl pM ?_; (with_reducible refine (laws_toFoodS.calls k _ _ l0 t390 _ ?side1 ?side2 A13.out).mono ?_); (case side1 => exact pS ((Kd.C_below HR0.out HB.out))); (case side2 => exact HC0.out); rintro e w59 ⟨v391, rfl, ho0, hb⟩; refine ⟨_, rfl, ?_⟩; have n0_ := Aside0.mk (Kd.R_elder' (pR HO378) (Kd.R_base ho0) hb); have n1_ := Aside0.mk (Kd.R_below (pR HO381) hb); have n2_ := Aside0.mk (Kd.R_elder' (pR HO385) (Kd.R_base ho0) hb); have n3_ := Aside0.mk (Kd.R_below (pR HO388) hb); have n4_ := Aside0.mk (Kd.R_lower (Kd.R_new' (Kd.R_new' ho0 (Kd.R_lt (pR HO378))) (Kd.R_lt (pR HO385))) (below_size pB)); have n5_ := Aside0.mk (below_step pB hb); clear HO378; clear HO381; clear HO385; clear HO388; clear HB; have HO378 := n0_; have HO381 := n1_; have HO385 := n2_; have HO388 := n3_; have HO392 := n4_; have HB := n5_; clear n0_ n1_ n2_ n3_ n4_ n5_; (try clear hb); (try clear hb2); (try clear hk); (try clear hi); (try clear ho0); obtain ⟨Ao60, co60, eo60⟩ := Kd.R_slice HO392.out; subst eo60) | ((with_reducible refine gate_callee (f := 20) rfl ?_); refine goesL_ (some 36) rfl rfl Try.func20 pL rfl #[.slice Ao56 t383.length co56, .slice Ao60 t390.length co60] rfl pM ?_; (with_reducible refine (laws_eqFoodS.calls k _ _ t383 _ _ t390 false _ ?side1 ?side2 ?side3 ?side4 A14.out).mono ?_); (case side1 => exact pS ((Kd.R_reads' HO385.out).2.2)); (case side2 => exact (Kd.R_reads' HO385.out).2.1); (case side3 => exact pS ((Kd.R_reads' HO392.out).2.2)); (case side4 => exact (Kd.R_reads' HO392.out).2.1); rintro e w61 ⟨rfl, hb⟩; refine ⟨_, rfl, ?_⟩; have n0_ := Aside0.mk (Kd.R_below (pR HO378) hb); have n1_ := Aside0.mk (Kd.R_below (pR HO381) hb); have n2_ := Aside0.mk (Kd.R_below (pR HO385) hb); have n3_ := Aside0.mk (Kd.R_below (pR HO388) hb); have n4_ := Aside0.mk (Kd.R_below (pR HO392) hb); have n5_ := Aside0.mk (below_step pB hb); clear HO378; clear HO381; clear HO385; clear HO388; clear HO392; clear HB; have HO378 := n0_; have HO381 := n1_; have HO385 := n2_; have HO388 := n3_; have HO392 := n4_; have HB := n5_; clear n0_ n1_ n2_ n3_ n4_ n5_; (try clear hb); (try clear hb2); (try clear hk); (try clear hi)))
     go_ret
     exact ⟨pE, pB⟩
   ·rw [if_neg c12] at H
    have c12b0 : (t389 == t382) = false := beq_eq_false_iff_ne.mpr c12
    have c12b1 : (t389 != t382) = true := bne_iff_ne.mpr c12
    obtain rfl := Option.some.inj H
    go_enter Try.func6, Try.ntmps6
    go_wp2_with (first | ((with_reducible refine gate_callee (f := 15) rfl ?_); refine goesL_ (some 15) rfl rfl Try.func15 pL rfl #[.slice A0 l0.length c0, .int .i64 1048576] rfl pM ?_; (with_reducible refine (laws_szFoodS.calls _ _ l0 1048576 t375 _ ?side1 ?side2 A4.out).mono ?_); (case side1 => exact pS (HR0.out)); (case side2 => exact HC0.out); rintro e w' ⟨rfl, ⟨nd, rfl⟩⟩; refine ⟨_, rfl, ?_⟩) | ((with_reducible refine gate_callee (f := 17) rfl ?_); refine goesL_ (some 19) rfl rfl Try.func17 pL rfl #[.slice A0 l0.length c0] rfl pM ?_; (with_reducible refine (laws_toFoodS.calls k _ _ l0 t376 _ ?side1 ?side2 A6.out).mono ?_); (case side1 => exact pS (HR0.out)); (case side2 => exact HC0.out); rintro e w62 ⟨v377, rfl, ho0, hb⟩; refine ⟨_, rfl, ?_⟩; have n0_ := Aside0.mk (Kd.R_lower ho0 (below_size pB)); have n1_ := Aside0.mk (below_step pB hb); clear HB; have HO378 := n0_; have HB := n1_; clear n0_ n1_; (try clear hb); (try clear hb2); (try clear hk); (try clear hi); (try clear ho0)) | ((with_reducible refine gate_callee (f := 18) rfl ?_); refine goesL_ (some 21) rfl rfl Try.func18 pL rfl #[.slice A1 l1.length c1] rfl pM ?_; (with_reducible refine (laws_toIntS.calls k _ _ l1 t379 _ ?side1 ?side2 A7.out).mono ?_); (case side1 => exact pS ((Kd.C_below HR1.out HB.out))); (case side2 => exact HC1.out); rintro e w63 ⟨v380, rfl, ho0, hb⟩; refine ⟨_, rfl, ?_⟩; have n0_ := Aside0.mk (Kd.R_below (pR HO378) hb); have n1_ := Aside0.mk (Kd.R_lower ho0 (below_size pB)); have n2_ := Aside0.mk (below_step pB hb); clear HO378; clear HB; have HO378 := n0_; have HO381 := n1_; have HB := n2_; clear n0_ n1_ n2_; (try clear hb); (try clear hb2); (try clear hk); (try clear hi); (try clear ho0); obtain ⟨Ao64, co64, eo64⟩ := Kd.R_slice HO378.out; subst eo64; obtain ⟨Ao65, co65, eo65⟩ := Kd.R_slice HO381.out; subst eo65) | ((with_reducible refine gate_callee (f := 26) rfl ?_); refine goesL_ (some 22) rfl rfl Try.func26 pL rfl #[.slice Ao64 t376.length co64, .slice Ao65 t379.length co65] rfl pM ?_; (with_reducible refine (spec_NeedsEnergy.calls k _ _ t376 _ _ t379 t382 _ ?side1 ?side2 ?side3 ?side4 A8.out).mono ?_); (case side1 => exact pS ((Kd.R_reads' HO378.out).2.2)); (case side2 => exact (Kd.R_reads' HO378.out).2.1); (case side3 => exact pS ((Kd.R_reads' HO381.out).2.2)); (case side4 => exact (Kd.R_reads' HO381.out).2.1); rintro e w66 ⟨rfl, hb⟩; refine ⟨_, rfl, ?_⟩; have n0_ := Aside0.mk (Kd.R_below (pR HO378) hb); have n1_ := Aside0.mk (Kd.R_below (pR HO381) hb); have n2_ := Aside0.mk (below_step pB hb); clear HO378; clear HO381; clear HB; have HO378 := n0_; have HO381 := n1_; have HB := n2_; clear n0_ n1_ n2_; (try clear hb); (try clear hb2); (try clear hk); (try clear hi)) | ((with_reducible refine gate_callee (f := 17) rfl ?_); refine goesL_ (some 24) rfl rfl Try.func17 pL rfl #[.slice A0 l0.length c0] rfl pM ?_; (with_reducible refine (laws_toFoodS.calls k _ _ l0 t383 _ ?side1 ?side2 A9.out).mono ?_); (case side1 => exact pS ((Kd.C_below HR0.out HB.out))); (case side2 => exact HC0.out); rintro e w67 ⟨v384, rfl, ho0, hb⟩; refine ⟨_, rfl, ?_⟩; have n0_ := Aside0.mk (Kd.R_elder' (pR HO378) (Kd.R_base ho0) hb); have n1_ := Aside0.mk (Kd.R_below (pR HO381) hb); have n2_ := Aside0.mk (Kd.R_lower (Kd.R_new' ho0 (Kd.R_lt (pR HO378))) (below_size pB)); have n3_ := Aside0.mk (below_step pB hb); clear HO378; clear HO381; clear HB; have HO378 := n0_; have HO381 := n1_; have HO385 := n2_; have HB := n3_; clear n0_ n1_ n2_ n3_; (try clear hb); (try clear hb2); (try clear hk); (try clear hi); (try clear ho0)) | ((with_reducible refine gate_callee (f := 18) rfl ?_); refine goesL_ (some 26) rfl rfl Try.func18 pL rfl #[.slice A1 l1.length c1] rfl pM ?_; (with_reducible refine (laws_toIntS.calls k _ _ l1 t386 _ ?side1 ?side2 A10.out).mono ?_); (case side1 => exact pS ((Kd.C_below HR1.out HB.out))); (case side2 => exact HC1.out); rintro e w68 ⟨v387, rfl, ho0, hb⟩; refine ⟨_, rfl, ?_⟩; have n0_ := Aside0.mk (Kd.R_below (pR HO378) hb); have n1_ := Aside0.mk (Kd.R_elder' (pR HO381) (Kd.R_base ho0) hb); have n2_ := Aside0.mk (Kd.R_below (pR HO385) hb); have n3_ := Aside0.mk (Kd.R_lower (Kd.R_new' ho0 (Kd.R_lt (pR HO381))) (below_size pB)); have n4_ := Aside0.mk (below_step pB hb); clear HO378; clear HO381; clear HO385; clear HB; have HO378 := n0_; have HO381 := n1_; have HO385 := n2_; have HO388 := n3_; have HB := n4_; clear n0_ n1_ n2_ n3_ n4_; (try clear hb); (try clear hb2); (try clear hk); (try clear hi); (try clear ho0); obtain ⟨Ao69, co69, eo69⟩ := Kd.R_slice HO385.out; subst eo69; obtain ⟨Ao70, co70, eo70⟩ := Kd.R_slice HO388.out; subst eo70) | ((with_reducible refine gate_callee (f := 27) rfl ?_); refine goesL_ (some 29) rfl rfl Try.func27 pL rfl #[.slice Ao69 t383.length co69, .slice Ao70 t386.length co70] rfl pM ?_; (with_reducible refine (impl_NeedsEnergy.calls k _ _ t383 _ _ t386 t389 _ ?side1 ?side2 ?side3 ?side4 A11.out).mono ?_); (case side1 => exact pS ((Kd.R_reads' HO385.out).2.2)); (case side2 => exact (Kd.R_reads' HO385.out).2.1); (case side3 => exact pS ((Kd.R_reads' HO388.out).2.2)); (case side4 => exact (Kd.R_reads' HO388.out).2.1); rintro e w71 ⟨rfl, hb⟩; refine ⟨_, rfl, ?_⟩; have n0_ := Aside0.mk (Kd.R_below (pR HO378) hb); have n1_ := Aside0.mk (Kd.R_below (pR HO381) hb); have n2_ := Aside0.mk (Kd.R_below (pR HO385) hb); have n3_ := Aside0.mk (Kd.R_below (pR HO388) hb); have n4_ := Aside0.mk (below_step pB hb); clear HO378; clear HO381; clear HO385; clear HO388; clear HB; have HO378 := n0_; have HO381 := n1_; have HO385 := n2_; have HO388 := n3_; have HB := n4_; clear n0_ n1_ n2_ n3_ n4_; (try clear hb); (try clear hb2); (try clear hk); (try clear hi)))
    go_ret
    exact ⟨pE, pB⟩

end Go.Proofs.Ytglddjbcaknnaaa.Q
