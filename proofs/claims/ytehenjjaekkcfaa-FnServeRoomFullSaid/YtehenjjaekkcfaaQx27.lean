-- Written by the kit's print.py for all laws of the seat at once (one namespace), by a program of this session.
import Derived.Test.YtehenjjaekkcfaaQx0
import Derived.Test.YtehenjjaekkcfaaQx5
import Derived.Test.YtehenjjaekkcfaaQx9
import Derived.Test.YtehenjjaekkcfaaQx10
namespace Go.Proofs.Ytehenjjaekkcfaa.Q
open Go.RowKit Go.Proofs.YtehenjjaekkcfaaW.PrintWords Go.Proofs.YtehenjjaekkcfaaW.PrintLast Go.Proofs.YtehenjjaekkcfaaW.PrintMore
attribute [local go_sem] max2_int min2_int max_two min_two max_three min_three max_four min_four   -- for this text's walks alone
set_option linter.unusedVariables false
set_option linter.unusedSimpArgs false

/-! ### spec_l14Some: function 70 -/
mutual
def spec_l14Some.l0 : Nat → List (S43) → List (S32) → Int → List Int → Int → Int → Option (Bool)
 | 0, _, _, _, _, _, _ => none
 | k + 1, x0, x1, x2, x3, x9, x10 => if x10 < x9 then (spec_l14Some.l1 k x0 x1 x2 x3 x9 x10 0 0 0) else (some true)
def spec_l14Some.l1 : Nat → List (S43) → List (S32) → Int → List Int → Int → Int → Int → Int → Int → Option (Bool)
 | 0, _, _, _, _, _, _, _, _, _ => none
 | k + 1, x0, x1, x2, x3, x9, x10, x11, x12, x13 => if x13 < (x1.length : Int) then ((spec_l3Has.f k x10 x13).bind fun t633 => (if t633 = true then (if 0 ≤ x13 then (if x13 < (x3.length : Int) then (spec_l14Some.l1 k x0 x1 x2 x3 x9 x10 (wrap64 (x11 + (rd x3 x13))) x12 (wrap64 (x13 + 1))) else (none)) else (none)) else (spec_l14Some.l1 k x0 x1 x2 x3 x9 x10 x11 x12 (wrap64 (x13 + 1))))) else (spec_l14Some.l2 k x0 x1 x2 x3 x9 x10 x11 x12 x2)
def spec_l14Some.l2 : Nat → List (S43) → List (S32) → Int → List Int → Int → Int → Int → Int → Int → Option (Bool)
 | 0, _, _, _, _, _, _, _, _, _ => none
 | k + 1, x0, x1, x2, x3, x9, x10, x11, x12, x14 => if x14 < (x0.length : Int) then (spec_l14Some.l3 k x0 x1 x2 x3 x9 x10 x11 x12 x14 true 0) else (if x12 > x11 then (some false) else (spec_l14Some.l0 k x0 x1 x2 x3 x9 (wrap64 (x10 + 1))))
def spec_l14Some.l3 : Nat → List (S43) → List (S32) → Int → List Int → Int → Int → Int → Int → Int → Bool → Int → Option (Bool)
 | 0, _, _, _, _, _, _, _, _, _, _, _ => none
 | k + 1, x0, x1, x2, x3, x9, x10, x11, x12, x14, x15, x16 => if x16 < (x1.length : Int) then (if x15 = true then ((spec_l3Has.f k x10 x16).bind fun t635 => (if t635 = true then (spec_l14Some.l3 k x0 x1 x2 x3 x9 x10 x11 x12 x14 true (wrap64 (x16 + 1))) else (if 0 ≤ x14 then (if x14 < (x0.length : Int) then (if 0 ≤ x16 then ((spec_l14May.f k ((rd_T43 x0 x14).f0) ((rd_T43 x0 x14).f1) ((rd_T43 x0 x14).f2) ((rd_T32 x1 x16).f0) ((rd_T32 x1 x16).f1) ((rd_T32 x1 x16).f2)).bind fun t638 => (spec_l14Some.l3 k x0 x1 x2 x3 x9 x10 x11 x12 x14 (!t638) (wrap64 (x16 + 1)))) else (none)) else (none)) else (none)))) else (spec_l14Some.l3 k x0 x1 x2 x3 x9 x10 x11 x12 x14 false (wrap64 (x16 + 1)))) else (if x15 = true then (spec_l14Some.l2 k x0 x1 x2 x3 x9 x10 x11 (wrap64 (x12 + 1)) (wrap64 (x14 + 1))) else (spec_l14Some.l2 k x0 x1 x2 x3 x9 x10 x11 x12 (wrap64 (x14 + 1))))
end
def spec_l14Some.f (k : Nat) (l0 : List (S43)) (l1 : List (S32)) (a2 : Int) (l3 : List Int) : Option (Bool) := (spec_l3Weight.f k (l1.length : Int)).bind fun t632 => (spec_l14Some.l0 k l0 l1 a2 l3 t632 0)
theorem spec_l14Some.mono_l : ∀ k, (∀ y0 y1 y2 y3 y4 y5, LeO (spec_l14Some.l0 k y0 y1 y2 y3 y4 y5) (spec_l14Some.l0 (k + 1) y0 y1 y2 y3 y4 y5)) ∧ (∀ y0 y1 y2 y3 y4 y5 y6 y7 y8, LeO (spec_l14Some.l1 k y0 y1 y2 y3 y4 y5 y6 y7 y8) (spec_l14Some.l1 (k + 1) y0 y1 y2 y3 y4 y5 y6 y7 y8)) ∧ (∀ y0 y1 y2 y3 y4 y5 y6 y7 y8, LeO (spec_l14Some.l2 k y0 y1 y2 y3 y4 y5 y6 y7 y8) (spec_l14Some.l2 (k + 1) y0 y1 y2 y3 y4 y5 y6 y7 y8)) ∧ (∀ y0 y1 y2 y3 y4 y5 y6 y7 y8 y9 y10, LeO (spec_l14Some.l3 k y0 y1 y2 y3 y4 y5 y6 y7 y8 y9 y10) (spec_l14Some.l3 (k + 1) y0 y1 y2 y3 y4 y5 y6 y7 y8 y9 y10))
 | 0 => ⟨fun _ _ _ _ _ _ r h => by simp [spec_l14Some.l0] at h, fun _ _ _ _ _ _ _ _ _ r h => by simp [spec_l14Some.l1] at h, fun _ _ _ _ _ _ _ _ _ r h => by simp [spec_l14Some.l2] at h, fun _ _ _ _ _ _ _ _ _ _ _ r h => by simp [spec_l14Some.l3] at h⟩
 | k + 1 => by
  obtain ⟨ih0, ih1, ih2, ih3⟩ := spec_l14Some.mono_l k
  refine ⟨?_, ?_, ?_, ?_⟩
  ·intro y0 y1 y2 y3 y4 y5
   unfold spec_l14Some.l0
   repeat' first
   | (with_reducible exact ih0 _ _ _ _ _ _)
   | (with_reducible exact ih1 _ _ _ _ _ _ _ _ _)
   | (with_reducible exact ih2 _ _ _ _ _ _ _ _ _)
   | (with_reducible exact ih3 _ _ _ _ _ _ _ _ _ _ _)
   | (with_reducible exact spec_l14May.mono _ _ _ _ _ _ _)
   | (with_reducible exact spec_l3Has.mono _ _ _)
   | (with_reducible exact spec_l3Weight.mono _ _)
   | (with_reducible exact LeO.refl _)
   | (with_reducible exact LeO.none _)
   | (with_reducible refine LeO.ite ?_ ?_)
   | (with_reducible refine LeO.bind ?_ (fun _ => ?_))
   | exact ih0 _ _ _ _ _ _
   | exact ih1 _ _ _ _ _ _ _ _ _
   | exact ih2 _ _ _ _ _ _ _ _ _
   | exact ih3 _ _ _ _ _ _ _ _ _ _ _
   | exact spec_l14May.mono _ _ _ _ _ _ _
   | exact spec_l3Has.mono _ _ _
   | exact spec_l3Weight.mono _ _
   | exact LeO.none _
   | refine LeO.ite ?_ ?_
   | refine LeO.bind ?_ (fun _ => ?_)
  ·intro y0 y1 y2 y3 y4 y5 y6 y7 y8
   unfold spec_l14Some.l1
   repeat' first
   | (with_reducible exact ih0 _ _ _ _ _ _)
   | (with_reducible exact ih1 _ _ _ _ _ _ _ _ _)
   | (with_reducible exact ih2 _ _ _ _ _ _ _ _ _)
   | (with_reducible exact ih3 _ _ _ _ _ _ _ _ _ _ _)
   | (with_reducible exact spec_l14May.mono _ _ _ _ _ _ _)
   | (with_reducible exact spec_l3Has.mono _ _ _)
   | (with_reducible exact spec_l3Weight.mono _ _)
   | (with_reducible exact LeO.refl _)
   | (with_reducible exact LeO.none _)
   | (with_reducible refine LeO.ite ?_ ?_)
   | (with_reducible refine LeO.bind ?_ (fun _ => ?_))
   | exact ih0 _ _ _ _ _ _
   | exact ih1 _ _ _ _ _ _ _ _ _
   | exact ih2 _ _ _ _ _ _ _ _ _
   | exact ih3 _ _ _ _ _ _ _ _ _ _ _
   | exact spec_l14May.mono _ _ _ _ _ _ _
   | exact spec_l3Has.mono _ _ _
   | exact spec_l3Weight.mono _ _
   | exact LeO.none _
   | refine LeO.ite ?_ ?_
   | refine LeO.bind ?_ (fun _ => ?_)
  ·intro y0 y1 y2 y3 y4 y5 y6 y7 y8
   unfold spec_l14Some.l2
   repeat' first
   | (with_reducible exact ih0 _ _ _ _ _ _)
   | (with_reducible exact ih1 _ _ _ _ _ _ _ _ _)
   | (with_reducible exact ih2 _ _ _ _ _ _ _ _ _)
   | (with_reducible exact ih3 _ _ _ _ _ _ _ _ _ _ _)
   | (with_reducible exact spec_l14May.mono _ _ _ _ _ _ _)
   | (with_reducible exact spec_l3Has.mono _ _ _)
   | (with_reducible exact spec_l3Weight.mono _ _)
   | (with_reducible exact LeO.refl _)
   | (with_reducible exact LeO.none _)
   | (with_reducible refine LeO.ite ?_ ?_)
   | (with_reducible refine LeO.bind ?_ (fun _ => ?_))
   | exact ih0 _ _ _ _ _ _
   | exact ih1 _ _ _ _ _ _ _ _ _
   | exact ih2 _ _ _ _ _ _ _ _ _
   | exact ih3 _ _ _ _ _ _ _ _ _ _ _
   | exact spec_l14May.mono _ _ _ _ _ _ _
   | exact spec_l3Has.mono _ _ _
   | exact spec_l3Weight.mono _ _
   | exact LeO.none _
   | refine LeO.ite ?_ ?_
   | refine LeO.bind ?_ (fun _ => ?_)
  ·intro y0 y1 y2 y3 y4 y5 y6 y7 y8 y9 y10
   unfold spec_l14Some.l3
   repeat' first
   | (with_reducible exact ih0 _ _ _ _ _ _)
   | (with_reducible exact ih1 _ _ _ _ _ _ _ _ _)
   | (with_reducible exact ih2 _ _ _ _ _ _ _ _ _)
   | (with_reducible exact ih3 _ _ _ _ _ _ _ _ _ _ _)
   | (with_reducible exact spec_l14May.mono _ _ _ _ _ _ _)
   | (with_reducible exact spec_l3Has.mono _ _ _)
   | (with_reducible exact spec_l3Weight.mono _ _)
   | (with_reducible exact LeO.refl _)
   | (with_reducible exact LeO.none _)
   | (with_reducible refine LeO.ite ?_ ?_)
   | (with_reducible refine LeO.bind ?_ (fun _ => ?_))
   | exact ih0 _ _ _ _ _ _
   | exact ih1 _ _ _ _ _ _ _ _ _
   | exact ih2 _ _ _ _ _ _ _ _ _
   | exact ih3 _ _ _ _ _ _ _ _ _ _ _
   | exact spec_l14May.mono _ _ _ _ _ _ _
   | exact spec_l3Has.mono _ _ _
   | exact spec_l3Weight.mono _ _
   | exact LeO.none _
   | refine LeO.ite ?_ ?_
   | refine LeO.bind ?_ (fun _ => ?_)
theorem spec_l14Some.mono : ∀ a0 a1 a2 a3 k, LeO (spec_l14Some.f k a0 a1 a2 a3) (spec_l14Some.f (k + 1) a0 a1 a2 a3) := by
 intro a0 a1 a2 a3 k
 obtain ⟨ih0, ih1, ih2, ih3⟩ := spec_l14Some.mono_l k
 unfold spec_l14Some.f
 repeat' first
   | (with_reducible exact ih0 _ _ _ _ _ _)
   | (with_reducible exact ih1 _ _ _ _ _ _ _ _ _)
   | (with_reducible exact ih2 _ _ _ _ _ _ _ _ _)
   | (with_reducible exact ih3 _ _ _ _ _ _ _ _ _ _ _)
   | (with_reducible exact spec_l14May.mono _ _ _ _ _ _ _)
   | (with_reducible exact spec_l3Has.mono _ _ _)
   | (with_reducible exact spec_l3Weight.mono _ _)
   | (with_reducible exact LeO.refl _)
   | (with_reducible exact LeO.none _)
   | (with_reducible refine LeO.ite ?_ ?_)
   | (with_reducible refine LeO.bind ?_ (fun _ => ?_))
   | exact ih0 _ _ _ _ _ _
   | exact ih1 _ _ _ _ _ _ _ _ _
   | exact ih2 _ _ _ _ _ _ _ _ _
   | exact ih3 _ _ _ _ _ _ _ _ _ _ _
   | exact spec_l14May.mono _ _ _ _ _ _ _
   | exact spec_l3Has.mono _ _ _
   | exact spec_l3Weight.mono _ _
   | exact LeO.none _
   | refine LeO.ite ?_ ?_
   | refine LeO.bind ?_ (fun _ => ?_)
def spec_l14Some.T19 : Bool × List (List Nat × List Nat) := (true, [([], []), ([0], [0]), ([1], [1]), ([1], [1]), ([2, 3, 1, 1], [1, 2, 3]), ([4, 4, 1], [1, 4]), ([5], [5]), ([5], [5]), ([6, 7, 5], [5, 6, 7]), ([8, 5], [5, 8]), ([5], [5]), ([5], [5]), ([10, 11, 5], [5, 10, 11]), ([12, 5], [5, 12]), ([9, 13, 5, 5], [5, 9, 13]), ([14, 5], [5, 14]), ([5, 15, 1], [1, 5, 15]), ([1, 16], [1, 16]), ([17, 14, 0, 1, 2, 3, 4, 5, 6, 7, 8, 9, 10, 11, 12, 13, 14, 15, 16, 17], [0, 17])])
def spec_l14Some.B19 : List Nat := [0, 1, 3, 3, 15, 31, 63, 63, 255, 511, 63, 63, 3135, 7231, 16383, 32767, 65535, 131071, 262143]
theorem spec_l14Some.tab19 : rtab .any (opsOf Try.f70 19) = spec_l14Some.T19 := by kernel_rfl
theorem spec_l14Some.bits19 : waitsOk spec_l14Some.T19.2 spec_l14Some.B19 = true := by kernel_rfl
set_option maxHeartbeats 8000000 in
set_option maxRecDepth 100000 in
theorem spec_l14Some.calls (k : Nat) (A0 : Option Addr) (c0 : Nat) (l0 : List (S43)) (A1 : Option Addr) (c1 : Nat) (l1 : List (S32)) (a2 : Int) (A3 : Option Addr) (c3 : Nat) (l3 : List Int) (r : Bool) (w : World) (hr0 : Kd.C k43 w A0 l0.length l0) (hc0 : l0.length ≤ c0) (hr1 : Kd.C k32 w A1 l1.length l1) (hc1 : l1.length ≤ c1) (hr3 : Kd.C (Kd.int .i64) w A3 l3.length l3) (hc3 : l3.length ≤ c3) (h : spec_l14Some.f k l0 l1 a2 l3 = some r) :
  Calls Try.prog 70 #[.slice A0 l0.length c0, .slice A1 l1.length c1, .int .i64 a2, .slice A3 l3.length c3] w fun e w' => e = .returned (.bool r) ∧ Below w.heap.size w w' := by
 have hu43 := Try.underlying43
 have hu32 := Try.underlying32
 have HR0 := Aside0.mk hr0
 have HC0 := Aside0.mk hc0
 clear hr0 hc0
 have HR1 := Aside0.mk hr1
 have HC1 := Aside0.mk hc1
 clear hr1 hc1
 have HR3 := Aside0.mk hr3
 have HC3 := Aside0.mk hc3
 clear hr3 hc3
 have HB := Aside0.mk (Below.refl w.heap.size w)
 have H : ((spec_l3Weight.f k (l1.length : Int)).bind fun t632 => (spec_l14Some.l0 k l0 l1 a2 l3 t632 0)) = some r := h
 clear h
 replace H := Option.bind_eq_some_iff.mp H
 obtain ⟨t632, A50, H⟩ := H
 replace H : (spec_l14Some.l0 k l0 l1 a2 l3 t632 0) = some r := H
 have A5 := Aside0.mk A50
 clear A50
 have H' := Aside0.mk H
 clear H
 go_enter Try.func70, Try.ntmps70
 go_wp2_with (first | ((with_reducible refine gate_callee (f := 72) rfl ?_); refine goesL_ (some 19) rfl rfl Try.func72 pL rfl #[.int .i64 (l1.length : Int)] rfl pM ?_; (with_reducible refine (spec_l3Weight.calls k (l1.length : Int) t632 _ A5.out).mono ?_); rintro e w' ⟨rfl, ⟨nd, rfl⟩⟩; refine ⟨_, rfl, ?_⟩))
 go_loopg [10] k (fun kq v10 w' => ∃ (x10_1 : Int), v10 = .int .i64 x10_1 ∧ Aside0 (spec_l14Some.l0 kq l0 l1 a2 l3 t632 x10_1 = some r) ∧ Aside0 (kq ≤ k) ∧ Aside0 (Below w.heap.size w w'))
 case atStart => exact ⟨(0), pF, H', ⟨Nat.le_refl _⟩, ⟨pB⟩⟩
 case round =>
  clear H'
  try clear c1
  try clear p2
  try clear c3
  obtain ⟨x10_1, rfl, HA, HK1, HB⟩ := hrel
  cases gk with
  | zero => exact absurd HA.out (by simp [spec_l14Some.l0])
  | succ k1 =>
   have H := HA.out
   clear HA
   simp only [spec_l14Some.l0] at H
   by_cases c6 : x10_1 < t632
   ·rw [if_pos c6] at H
    have c6b0 : decide (x10_1 < t632) = true := decide_eq_true c6
    clear c6
    have H' := Aside0.mk H
    clear H
    go_wp2
    go_loopg [11, 13] k1 (fun kq v11 v13 w' => ∃ (x11_2 : Int) (x13_2 : Int), v11 = .int .i64 x11_2 ∧ v13 = .int .i64 x13_2 ∧ Aside0 (spec_l14Some.l1 kq l0 l1 a2 l3 t632 x10_1 x11_2 0 x13_2 = some r) ∧ Aside0 (kq ≤ k1) ∧ Aside0 (Below w.heap.size w w'))
    case atStart => exact ⟨(0), (0), pF, pF, H', ⟨Nat.le_refl _⟩, ⟨pB⟩⟩
    case round =>
     clear H'
     try clear c1
     try clear p2
     try clear c3
     try clear c6
     try clear c6b0
     try clear p2
     obtain ⟨x11_2, x13_2, rfl, rfl, HA, HK2, HB⟩ := hrel
     cases gk with
     | zero => exact absurd HA.out (by simp [spec_l14Some.l1])
     | succ k2 =>
      have H := HA.out
      clear HA
      simp only [spec_l14Some.l1] at H
      by_cases c7 : x13_2 < (l1.length : Int)
      ·rw [if_pos c7] at H
       have c7b0 : decide (x13_2 < (l1.length : Int)) = true := decide_eq_true c7
       clear c7
       replace H := Option.bind_eq_some_iff.mp H
       obtain ⟨t633, A80, H⟩ := H
       replace H : (if t633 = true then (if 0 ≤ x13_2 then (if x13_2 < (l3.length : Int) then (spec_l14Some.l1 k2 l0 l1 a2 l3 t632 x10_1 (wrap64 (x11_2 + (rd l3 x13_2))) 0 (wrap64 (x13_2 + 1))) else (none)) else (none)) else (spec_l14Some.l1 k2 l0 l1 a2 l3 t632 x10_1 x11_2 0 (wrap64 (x13_2 + 1)))) = some r := H
       have A8 := Aside0.mk A80
       clear A80
       by_cases c9 : t633 = true
       ·subst c9
        have H1 : (if 0 ≤ x13_2 then (if x13_2 < (l3.length : Int) then (spec_l14Some.l1 k2 l0 l1 a2 l3 t632 x10_1 (wrap64 (x11_2 + (rd l3 x13_2))) 0 (wrap64 (x13_2 + 1))) else (none)) else (none)) = some r := by rw [if_pos rfl] at H; exact H
        clear H
        have H := H1
        clear H1
        by_cases c10 : 0 ≤ x13_2
        ·rw [if_pos c10] at H
         have c10b0 : decide (0 ≤ x13_2) = true := decide_eq_true c10
         clear c10
         by_cases c11 : x13_2 < (l3.length : Int)
         ·rw [if_pos c11] at H
          have c11b0 : decide (x13_2 < (l3.length : Int)) = true := decide_eq_true c11
          clear c11
          have H' := Aside0.mk H
          clear H
          go_wp2_with (first | ((with_reducible refine gate_callee (f := 76) rfl ?_); refine goesL_ (some 33) rfl rfl Try.func76 pL rfl #[.int .i64 x10_1, .int .i64 x13_2] rfl pM ?_; (with_reducible refine (spec_l3Has.calls k2 x10_1 x13_2 true _ A8.out).mono ?_); rintro e w' ⟨rfl, ⟨nd, rfl⟩⟩; refine ⟨_, rfl, ?_⟩; have p634 : 0 ≤ (x13_2 : Int) := of_decide_eq_true pA; have q634 : x13_2 < (l3.length : Int) := of_decide_eq_true pA; obtain ⟨ad634, e634, hx634_0⟩ := Kd.at_int HR3.out x13_2 p634 q634; cases e634; replace hx634_0 := (HB.out.cell (World.block_lt_of_cell? w _ hx634_0)).trans hx634_0; replace p634 := eq_true p634; replace q634 := eq_true q634))
          go_roundg k2
          case measure => have := HK1.out; have := HK2.out; omega
          case rel => exact ⟨(wrap64 (x11_2 + (rd l3 x13_2))), (wrap64 (x13_2 + 1)), pF, pF, H', ⟨by have := HK1.out; have := HK2.out; omega⟩, ⟨pB⟩⟩
         ·rw [if_neg c11] at H
          exact absurd H (by simp)
        ·rw [if_neg c10] at H
         exact absurd H (by simp)
       ·replace c9 := Bool.eq_false_iff.mpr c9
        subst c9
        have H1 : (spec_l14Some.l1 k2 l0 l1 a2 l3 t632 x10_1 x11_2 0 (wrap64 (x13_2 + 1))) = some r := by rw [if_neg (show ¬ (false = true) by decide)] at H; exact H
        clear H
        have H := H1
        clear H1
        have H' := Aside0.mk H
        clear H
        go_wp2_with (first | ((with_reducible refine gate_callee (f := 76) rfl ?_); refine goesL_ (some 33) rfl rfl Try.func76 pL rfl #[.int .i64 x10_1, .int .i64 x13_2] rfl pM ?_; (with_reducible refine (spec_l3Has.calls k2 x10_1 x13_2 false _ A8.out).mono ?_); rintro e w' ⟨rfl, ⟨nd, rfl⟩⟩; refine ⟨_, rfl, ?_⟩))
        go_roundg k2
        case measure => have := HK1.out; have := HK2.out; omega
        case rel => exact ⟨(x11_2), (wrap64 (x13_2 + 1)), pF, pF, H', ⟨by have := HK1.out; have := HK2.out; omega⟩, ⟨pB⟩⟩
      ·rw [if_neg c7] at H
       have c7b0 : decide (x13_2 < (l1.length : Int)) = false := decide_eq_false c7
       clear c7
       have H' := Aside0.mk H
       clear H
       go_wp2
       go_loopg [12, 14] k2 (fun kq v12 v14 w' => ∃ (x12_3 : Int) (x14_3 : Int), v12 = .int .i64 x12_3 ∧ v14 = .int .i64 x14_3 ∧ Aside0 (spec_l14Some.l2 kq l0 l1 a2 l3 t632 x10_1 x11_2 x12_3 x14_3 = some r) ∧ Aside0 (kq ≤ k2) ∧ Aside0 (Below w.heap.size w w'))
       case atStart => exact ⟨(0), (a2), pF, pF, H', ⟨Nat.le_refl _⟩, ⟨pB⟩⟩
       case round =>
        clear H'
        try clear c1
        try clear p2
        try clear c3
        try clear c6
        try clear c6b0
        try clear p6
        try clear q6
        try clear hx6
        try clear c7
        try clear c7b0
        try clear c9
        try clear c10
        try clear c10b0
        try clear c11
        try clear c11b0
        try clear hx634_0
        try clear p2
        try clear p634
        try clear q634
        obtain ⟨x12_3, x14_3, rfl, rfl, HA, HK3, HB⟩ := hrel
        cases gk with
        | zero => exact absurd HA.out (by simp [spec_l14Some.l2])
        | succ k3 =>
         have H := HA.out
         clear HA
         simp only [spec_l14Some.l2] at H
         by_cases c12 : x14_3 < (l0.length : Int)
         ·rw [if_pos c12] at H
          have c12b0 : decide (x14_3 < (l0.length : Int)) = true := decide_eq_true c12
          clear c12
          have H' := Aside0.mk H
          clear H
          go_wp2
          go_loopg [15, 16] k3 (fun kq v15 v16 w' => ∃ (x15_4 : Bool) (x16_4 : Int), v15 = .bool x15_4 ∧ v16 = .int .i64 x16_4 ∧ Aside0 (spec_l14Some.l3 kq l0 l1 a2 l3 t632 x10_1 x11_2 x12_3 x14_3 x15_4 x16_4 = some r) ∧ Aside0 (kq ≤ k3) ∧ Aside0 (Below w.heap.size w w'))
          case atStart => exact ⟨(true), (0), pF, pF, H', ⟨Nat.le_refl _⟩, ⟨pB⟩⟩
          case round =>
           clear H'
           try clear c1
           try clear p2
           try clear c3
           try clear c6
           try clear c6b0
           try clear p6
           try clear q6
           try clear hx6
           try clear c7
           try clear c7b0
           try clear c9
           try clear c10
           try clear c10b0
           try clear c11
           try clear c11b0
           try clear c12
           try clear c12b0
           try clear hx634_0
           try clear p2
           try clear p6
           try clear p634
           try clear q6
           try clear q634
           obtain ⟨x15_4, x16_4, rfl, rfl, HA, HK4, HB⟩ := hrel
           cases gk with
           | zero => exact absurd HA.out (by simp [spec_l14Some.l3])
           | succ k4 =>
            have H := HA.out
            clear HA
            simp only [spec_l14Some.l3] at H
            by_cases c13 : x16_4 < (l1.length : Int)
            ·rw [if_pos c13] at H
             have c13b0 : decide (x16_4 < (l1.length : Int)) = true := decide_eq_true c13
             clear c13
             by_cases c14 : x15_4 = true
             ·subst c14
              have H1 : ((spec_l3Has.f k4 x10_1 x16_4).bind fun t635 => (if t635 = true then (spec_l14Some.l3 k4 l0 l1 a2 l3 t632 x10_1 x11_2 x12_3 x14_3 true (wrap64 (x16_4 + 1))) else (if 0 ≤ x14_3 then (if x14_3 < (l0.length : Int) then (if 0 ≤ x16_4 then ((spec_l14May.f k4 ((rd_T43 l0 x14_3).f0) ((rd_T43 l0 x14_3).f1) ((rd_T43 l0 x14_3).f2) ((rd_T32 l1 x16_4).f0) ((rd_T32 l1 x16_4).f1) ((rd_T32 l1 x16_4).f2)).bind fun t638 => (spec_l14Some.l3 k4 l0 l1 a2 l3 t632 x10_1 x11_2 x12_3 x14_3 (!t638) (wrap64 (x16_4 + 1)))) else (none)) else (none)) else (none)))) = some r := by rw [if_pos rfl] at H; exact H
              clear H
              have H := H1
              clear H1
              replace H := Option.bind_eq_some_iff.mp H
              obtain ⟨t635, A150, H⟩ := H
              replace H : (if t635 = true then (spec_l14Some.l3 k4 l0 l1 a2 l3 t632 x10_1 x11_2 x12_3 x14_3 true (wrap64 (x16_4 + 1))) else (if 0 ≤ x14_3 then (if x14_3 < (l0.length : Int) then (if 0 ≤ x16_4 then ((spec_l14May.f k4 ((rd_T43 l0 x14_3).f0) ((rd_T43 l0 x14_3).f1) ((rd_T43 l0 x14_3).f2) ((rd_T32 l1 x16_4).f0) ((rd_T32 l1 x16_4).f1) ((rd_T32 l1 x16_4).f2)).bind fun t638 => (spec_l14Some.l3 k4 l0 l1 a2 l3 t632 x10_1 x11_2 x12_3 x14_3 (!t638) (wrap64 (x16_4 + 1)))) else (none)) else (none)) else (none))) = some r := H
              have A15 := Aside0.mk A150
              clear A150
              by_cases c16 : t635 = true
              ·subst c16
               have H1 : (spec_l14Some.l3 k4 l0 l1 a2 l3 t632 x10_1 x11_2 x12_3 x14_3 true (wrap64 (x16_4 + 1))) = some r := by rw [if_pos rfl] at H; exact H
               clear H
               have H := H1
               clear H1
               have H' := Aside0.mk H
               clear H
               try go_wp2
               have n0_ := Aside0.mk (below_drew1 HB.out)
               clear HB
               have HB := n0_
               clear n0_
               refine start_ (n := 19) (S := fun w' => True) (ds := []) #[false, false, false, false, false, false, false, false, false, false, false, false, false, false, false, false, false, false, false] pL rfl rfl trivial (fun hHeld => ?_); refine with_tabW spec_l14Some.tab19 spec_l14Some.bits19 (fun HT_ HW_ => ?_)
               generalize wr.drew = w17 at HB hHeld ⊢
               refine pure_ (i := 0) (N := some 53) (v := ?_) (a' := ?_) #[true, false, false, false, false, false, false, false, false, false, false, false, false, false, false, false, false, false, false] rfl rfl (any_of HT_.out pL) (fun _ _ _ h => h) (Or.inl ⟨by rfl, ?_⟩) ?_ ?_
               rotate_left
               ·intro w'
                go_simp
                with_reducible rfl
               rotate_left
               ·exact pP
               refine pure_ (i := 1) (N := some 54) (v := ?_) (a' := ?_) #[true, true, false, false, false, false, false, false, false, false, false, false, false, false, false, false, false, false, false] rfl rfl (any_of HT_.out pL) (fun _ _ _ h => h) (Or.inl ⟨by rfl, ?_⟩) ?_ ?_
               rotate_left
               ·intro w'
                go_simp
                with_reducible rfl
               rotate_left
               ·exact pP
               refine pure_ (i := 2) (N := some 55) (v := ?_) (a' := ?_) #[true, true, true, false, false, false, false, false, false, false, false, false, false, false, false, false, false, false, false] rfl rfl (any_of HT_.out pL) (fun _ _ _ h => h) (Or.inl ⟨by rfl, ?_⟩) ?_ ?_
               rotate_left
               ·intro w'
                go_simp
                with_reducible rfl
               rotate_left
               ·exact pP
               refine pure_ (i := 3) (N := some 56) (v := ?_) (a' := ?_) #[true, true, true, true, false, false, false, false, false, false, false, false, false, false, false, false, false, false, false] rfl rfl (any_of HT_.out pL) (fun _ _ _ h => h) (Or.inl ⟨by rfl, ?_⟩) ?_ ?_
               rotate_left
               ·intro w'
                go_simp
                with_reducible rfl
               rotate_left
               ·exact pP
               refine one_ (i := 4) (N := some 57) #[true, true, true, true, true, false, false, false, false, false, false, false, false, false, false, false, false, false, false] rfl rfl (one_of HT_.out pL) (by decide) (fun K hK => ?_)
               refine goes_ Try.func76 pL rfl #[.int .i64 x10_1, .int .i64 x16_4] (by rfl) rfl rfl pM ?_
               with_reducible refine (spec_l3Has.calls k4 x10_1 x16_4 true _ A15.out).mono ?_
               rintro e w' ⟨rfl, ⟨nd, rfl⟩⟩
               refine ⟨_, rfl, ?_⟩
               refine hK.out _ _ trivial (fun hHeld => ?_)
               clear hK K
               refine norm_ (a' := ?_) ?_ ?_
               rotate_left
               ·show Act.put _ (some 57) _ = _
                exact pP
               refine pure_ (i := 5) (N := some 58) (v := ?_) (a' := ?_) #[true, true, true, true, true, true, false, false, false, false, false, false, false, false, false, false, false, false, false] rfl rfl (any_of HT_.out pL) (fun _ _ _ h => h) (Or.inl ⟨by rfl, ?_⟩) ?_ ?_
               rotate_left
               ·intro w'
                go_simp
                with_reducible rfl
               rotate_left
               ·exact pP
               refine pure_ (i := 6) (N := some 59) (v := undef) (a' := ?_) #[true, true, true, true, true, true, true, false, false, false, false, false, false, false, false, false, false, false, false] rfl rfl (any_of HT_.out pL) (fun _ _ _ h => h) (Or.inr ⟨by rfl, rfl⟩) ?_ ?_
               rotate_left
               ·exact pP
               refine pure_ (i := 7) (N := some 60) (v := undef) (a' := ?_) #[true, true, true, true, true, true, true, true, false, false, false, false, false, false, false, false, false, false, false] rfl rfl (any_of HT_.out pL) (fun _ _ _ h => h) (Or.inr ⟨by rfl, rfl⟩) ?_ ?_
               rotate_left
               ·exact pP
               refine pure_ (i := 8) (N := some 61) (v := undef) (a' := ?_) #[true, true, true, true, true, true, true, true, true, false, false, false, false, false, false, false, false, false, false] rfl rfl (any_of HT_.out pL) (fun _ _ _ h => h) (Or.inr ⟨by rfl, rfl⟩) ?_ ?_
               rotate_left
               ·exact pP
               refine pure_ (i := 9) (N := some 62) (v := undef) (a' := ?_) #[true, true, true, true, true, true, true, true, true, true, false, false, false, false, false, false, false, false, false] rfl rfl (any_of HT_.out pL) (fun _ _ _ h => h) (Or.inr ⟨by rfl, rfl⟩) ?_ ?_
               rotate_left
               ·exact pP
               refine pure_ (i := 10) (N := some 63) (v := undef) (a' := ?_) #[true, true, true, true, true, true, true, true, true, true, true, false, false, false, false, false, false, false, false] rfl rfl (any_of HT_.out pL) (fun _ _ _ h => h) (Or.inr ⟨by rfl, rfl⟩) ?_ ?_
               rotate_left
               ·exact pP
               refine pure_ (i := 11) (N := some 64) (v := undef) (a' := ?_) #[true, true, true, true, true, true, true, true, true, true, true, true, false, false, false, false, false, false, false] rfl rfl (any_of HT_.out pL) (fun _ _ _ h => h) (Or.inr ⟨by rfl, rfl⟩) ?_ ?_
               rotate_left
               ·exact pP
               refine pure_ (i := 12) (N := some 65) (v := undef) (a' := ?_) #[true, true, true, true, true, true, true, true, true, true, true, true, true, false, false, false, false, false, false] rfl rfl (any_of HT_.out pL) (fun _ _ _ h => h) (Or.inr ⟨by rfl, rfl⟩) ?_ ?_
               rotate_left
               ·exact pP
               refine pure_ (i := 13) (N := some 66) (v := undef) (a' := ?_) #[true, true, true, true, true, true, true, true, true, true, true, true, true, true, false, false, false, false, false] rfl rfl (any_of HT_.out pL) (fun _ _ _ h => h) (Or.inr ⟨by rfl, rfl⟩) ?_ ?_
               rotate_left
               ·exact pP
               refine pure_ (i := 14) (N := some 67) (v := undef) (a' := ?_) #[true, true, true, true, true, true, true, true, true, true, true, true, true, true, true, false, false, false, false] rfl rfl (any_of HT_.out pL) (fun _ _ _ h => h) (Or.inr ⟨by rfl, rfl⟩) ?_ ?_
               rotate_left
               ·exact pP
               refine pure_ (i := 15) (N := some 68) (v := undef) (a' := ?_) #[true, true, true, true, true, true, true, true, true, true, true, true, true, true, true, true, false, false, false] rfl rfl (any_of HT_.out pL) (fun _ _ _ h => h) (Or.inr ⟨by rfl, rfl⟩) ?_ ?_
               rotate_left
               ·exact pP
               refine pure_ (i := 16) (N := some 69) (v := ?_) (a' := ?_) #[true, true, true, true, true, true, true, true, true, true, true, true, true, true, true, true, true, false, false] rfl rfl (any_of HT_.out pL) (fun _ _ _ h => h) (Or.inl ⟨by rfl, ?_⟩) ?_ ?_
               rotate_left
               ·intro w'
                go_simp
                with_reducible rfl
               rotate_left
               ·exact pP
               refine pure_ (i := 17) (N := some 70) (v := ?_) (a' := ?_) #[true, true, true, true, true, true, true, true, true, true, true, true, true, true, true, true, true, true, false] rfl rfl (any_of HT_.out pL) (fun _ _ _ h => h) (Or.inl ⟨by rfl, ?_⟩) ?_ ?_
               rotate_left
               ·intro w'
                go_simp
                with_reducible rfl
               rotate_left
               ·exact pP
               refine pure_ (i := 18) (N := some 15) (v := ?_) (a' := ?_) #[true, true, true, true, true, true, true, true, true, true, true, true, true, true, true, true, true, true, true] rfl rfl (any_of HT_.out pL) (fun _ _ _ h => h) (Or.inl ⟨by rfl, ?_⟩) ?_ ?_
               rotate_left
               ·intro w'
                go_simp
                with_reducible rfl
               rotate_left
               ·exact pP
               refine done_ (done_of HT_.out pL) ?_
               try go_wp2
               go_roundg k4
               case measure => have := HK1.out; have := HK2.out; have := HK3.out; have := HK4.out; omega
               case rel => exact ⟨(true), (wrap64 (x16_4 + 1)), pF, pF, H', ⟨by have := HK1.out; have := HK2.out; have := HK3.out; have := HK4.out; omega⟩, ⟨pB⟩⟩
              ·replace c16 := Bool.eq_false_iff.mpr c16
               subst c16
               have H1 : (if 0 ≤ x14_3 then (if x14_3 < (l0.length : Int) then (if 0 ≤ x16_4 then ((spec_l14May.f k4 ((rd_T43 l0 x14_3).f0) ((rd_T43 l0 x14_3).f1) ((rd_T43 l0 x14_3).f2) ((rd_T32 l1 x16_4).f0) ((rd_T32 l1 x16_4).f1) ((rd_T32 l1 x16_4).f2)).bind fun t638 => (spec_l14Some.l3 k4 l0 l1 a2 l3 t632 x10_1 x11_2 x12_3 x14_3 (!t638) (wrap64 (x16_4 + 1)))) else (none)) else (none)) else (none)) = some r := by rw [if_neg (show ¬ (false = true) by decide)] at H; exact H
               clear H
               have H := H1
               clear H1
               by_cases c18 : 0 ≤ x14_3
               ·rw [if_pos c18] at H
                have c18b0 : decide (0 ≤ x14_3) = true := decide_eq_true c18
                clear c18
                by_cases c19 : x14_3 < (l0.length : Int)
                ·rw [if_pos c19] at H
                 have c19b0 : decide (x14_3 < (l0.length : Int)) = true := decide_eq_true c19
                 clear c19
                 by_cases c20 : 0 ≤ x16_4
                 ·rw [if_pos c20] at H
                  have c20b0 : decide (0 ≤ x16_4) = true := decide_eq_true c20
                  clear c20
                  replace H := Option.bind_eq_some_iff.mp H
                  obtain ⟨t638, A210, H⟩ := H
                  replace H : (spec_l14Some.l3 k4 l0 l1 a2 l3 t632 x10_1 x11_2 x12_3 x14_3 (!t638) (wrap64 (x16_4 + 1))) = some r := H
                  have A21 := Aside0.mk A210
                  clear A210
                  have H' := Aside0.mk H
                  clear H
                  try go_wp2
                  have n0_ := Aside0.mk (below_drew1 HB.out)
                  clear HB
                  have HB := n0_
                  clear n0_
                  have p636 : 0 ≤ (x14_3 : Int) := of_decide_eq_true pA
                  have q636 : x14_3 < (l0.length : Int) := of_decide_eq_true pA
                  obtain ⟨ad636, e636, hx636_0, hx636_1, hx636_2⟩ := at_T43 HR0.out x14_3 p636 q636
                  have hw636_2 := hx636_2
                  have hw636_1 := hx636_1
                  have hw636_0 := hx636_0
                  cases e636
                  replace hx636_0 := (HB.out.cell (World.block_lt_of_cell? w _ hx636_0)).trans hx636_0
                  replace hx636_1 := (HB.out.cell (World.block_lt_of_cell? w _ hx636_1)).trans hx636_1
                  replace hx636_2 := (HB.out.cell (World.block_lt_of_cell? w _ hx636_2)).trans hx636_2
                  replace p636 := eq_true p636
                  replace q636 := eq_true q636
                  have p637 : 0 ≤ (x16_4 : Int) := of_decide_eq_true pA
                  have q637 : x16_4 < (l1.length : Int) := of_decide_eq_true pA
                  obtain ⟨ad637, e637, hx637_0, hx637_1, hx637_2⟩ := at_T32 HR1.out x16_4 p637 q637
                  have hw637_2 := hx637_2
                  have hw637_1 := hx637_1
                  have hw637_0 := hx637_0
                  cases e637
                  replace hx637_0 := (HB.out.cell (World.block_lt_of_cell? w _ hx637_0)).trans hx637_0
                  replace hx637_1 := (HB.out.cell (World.block_lt_of_cell? w _ hx637_1)).trans hx637_1
                  replace hx637_2 := (HB.out.cell (World.block_lt_of_cell? w _ hx637_2)).trans hx637_2
                  replace p637 := eq_true p637
                  replace q637 := eq_true q637
                  refine start_ (n := 19) (S := fun w' => w'.cell? (ad636.add ((x14_3).toNat * 3)) = some (.int .i64 ((rd_T43 l0 x14_3).f0)) ∧ w'.cell? ⟨(ad636.add ((x14_3).toNat * 3)).block, (ad636.add ((x14_3).toNat * 3)).off + 1, none⟩ = some (.int .i64 ((rd_T43 l0 x14_3).f1)) ∧ w'.cell? ⟨(ad636.add ((x14_3).toNat * 3)).block, (ad636.add ((x14_3).toNat * 3)).off + 2, none⟩ = some (.int .i64 ((rd_T43 l0 x14_3).f2)) ∧ w'.cell? (ad637.add ((x16_4).toNat * 3)) = some (.int .i64 ((rd_T32 l1 x16_4).f0)) ∧ w'.cell? ⟨(ad637.add ((x16_4).toNat * 3)).block, (ad637.add ((x16_4).toNat * 3)).off + 1, none⟩ = some (.int .i64 ((rd_T32 l1 x16_4).f1)) ∧ w'.cell? ⟨(ad637.add ((x16_4).toNat * 3)).block, (ad637.add ((x16_4).toNat * 3)).off + 2, none⟩ = some (.int .i64 ((rd_T32 l1 x16_4).f2))) (ds := []) #[false, false, false, false, false, false, false, false, false, false, false, false, false, false, false, false, false, false, false] pL rfl rfl ⟨((HB.out.cell (World.block_lt_of_cell? w _ hw636_0)).trans hw636_0), ((HB.out.cell (World.block_lt_of_cell? w _ hw636_1)).trans hw636_1), ((HB.out.cell (World.block_lt_of_cell? w _ hw636_2)).trans hw636_2), ((HB.out.cell (World.block_lt_of_cell? w _ hw637_0)).trans hw637_0), ((HB.out.cell (World.block_lt_of_cell? w _ hw637_1)).trans hw637_1), ((HB.out.cell (World.block_lt_of_cell? w _ hw637_2)).trans hw637_2)⟩ (fun hHeld => ?_); refine with_tabW spec_l14Some.tab19 spec_l14Some.bits19 (fun HT_ HW_ => ?_)
                  generalize wr.drew = w22 at HB hx636_0 hx636_1 hx636_2 hx637_0 hx637_1 hx637_2 hHeld ⊢
                  refine pure_ (i := 0) (N := some 53) (v := ?_) (a' := ?_) #[true, false, false, false, false, false, false, false, false, false, false, false, false, false, false, false, false, false, false] rfl rfl (any_of HT_.out pL) (fun _ _ _ h => h) (Or.inl ⟨by rfl, ?_⟩) ?_ ?_
                  rotate_left
                  ·intro w'
                   go_simp
                   with_reducible rfl
                  rotate_left
                  ·exact pP
                  refine pure_ (i := 1) (N := some 54) (v := ?_) (a' := ?_) #[true, true, false, false, false, false, false, false, false, false, false, false, false, false, false, false, false, false, false] rfl rfl (any_of HT_.out pL) (fun _ _ _ h => h) (Or.inl ⟨by rfl, ?_⟩) ?_ ?_
                  rotate_left
                  ·intro w'
                   go_simp
                   with_reducible rfl
                  rotate_left
                  ·exact pP
                  refine pure_ (i := 2) (N := some 55) (v := ?_) (a' := ?_) #[true, true, true, false, false, false, false, false, false, false, false, false, false, false, false, false, false, false, false] rfl rfl (any_of HT_.out pL) (fun _ _ _ h => h) (Or.inl ⟨by rfl, ?_⟩) ?_ ?_
                  rotate_left
                  ·intro w'
                   go_simp
                   with_reducible rfl
                  rotate_left
                  ·exact pP
                  refine pure_ (i := 3) (N := some 56) (v := ?_) (a' := ?_) #[true, true, true, true, false, false, false, false, false, false, false, false, false, false, false, false, false, false, false] rfl rfl (any_of HT_.out pL) (fun _ _ _ h => h) (Or.inl ⟨by rfl, ?_⟩) ?_ ?_
                  rotate_left
                  ·intro w'
                   go_simp
                   with_reducible rfl
                  rotate_left
                  ·exact pP
                  refine one_ (i := 4) (N := some 57) #[true, true, true, true, true, false, false, false, false, false, false, false, false, false, false, false, false, false, false] rfl rfl (one_of HT_.out pL) (by decide) (fun K hK => ?_)
                  refine goes_ Try.func76 pL rfl #[.int .i64 x10_1, .int .i64 x16_4] (by rfl) rfl rfl pM ?_
                  with_reducible refine (spec_l3Has.calls k4 x10_1 x16_4 false _ A15.out).mono ?_
                  rintro e w' ⟨rfl, ⟨nd, rfl⟩⟩
                  refine ⟨_, rfl, ?_⟩
                  refine hK.out _ _ ⟨((HB.out.cell (World.block_lt_of_cell? w _ hw636_0)).trans hw636_0), ((HB.out.cell (World.block_lt_of_cell? w _ hw636_1)).trans hw636_1), ((HB.out.cell (World.block_lt_of_cell? w _ hw636_2)).trans hw636_2), ((HB.out.cell (World.block_lt_of_cell? w _ hw637_0)).trans hw637_0), ((HB.out.cell (World.block_lt_of_cell? w _ hw637_1)).trans hw637_1), ((HB.out.cell (World.block_lt_of_cell? w _ hw637_2)).trans hw637_2)⟩ (fun hHeld => ?_)
                  clear hK K
                  refine norm_ (a' := ?_) ?_ ?_
                  rotate_left
                  ·show Act.put _ (some 57) _ = _
                   exact pP
                  refine pure_ (i := 5) (N := some 58) (v := ?_) (a' := ?_) #[true, true, true, true, true, true, false, false, false, false, false, false, false, false, false, false, false, false, false] rfl rfl (any_of HT_.out pL) (fun _ _ _ h => h) (Or.inl ⟨by rfl, ?_⟩) ?_ ?_
                  rotate_left
                  ·intro w'
                   go_simp
                   with_reducible rfl
                  rotate_left
                  ·exact pP
                  refine pure_ (i := 6) (N := some 59) (v := ?_) (a' := ?_) #[true, true, true, true, true, true, true, false, false, false, false, false, false, false, false, false, false, false, false] rfl rfl (any_of HT_.out pL) (fun _ _ _ h => h) (Or.inl ⟨by rfl, ?_⟩) ?_ ?_
                  rotate_left
                  ·intro w'
                   go_simp
                   with_reducible rfl
                  rotate_left
                  ·exact pP
                  refine pure_ (i := 7) (N := some 60) (v := ?_) (a' := ?_) #[true, true, true, true, true, true, true, true, false, false, false, false, false, false, false, false, false, false, false] rfl rfl (any_of HT_.out pL) (fun _ _ _ h => h) (Or.inl ⟨by rfl, ?_⟩) ?_ ?_
                  rotate_left
                  ·intro w'
                   go_simp
                   with_reducible rfl
                  rotate_left
                  ·exact pP
                  refine pure_ (i := 8) (N := some 61) (v := ?_) (a' := ?_) #[true, true, true, true, true, true, true, true, true, false, false, false, false, false, false, false, false, false, false] rfl rfl (any_of HT_.out pL) (fun _ _ _ h => h) (Or.inl ⟨by rfl, ?_⟩) ?_ ?_
                  rotate_left
                  ·intro w'
                   go_simp
                   with_reducible rfl
                  rotate_left
                  ·exact pP
                  refine pure_ (i := 10) (N := some 63) (v := ?_) (a' := ?_) #[true, true, true, true, true, true, true, true, true, false, true, false, false, false, false, false, false, false, false] rfl rfl (any_of HT_.out pL) (fun _ _ _ h => h) (Or.inl ⟨by rfl, ?_⟩) ?_ ?_
                  rotate_left
                  ·intro w'
                   go_simp
                   with_reducible rfl
                  rotate_left
                  ·exact pP
                  refine pure_ (i := 11) (N := some 64) (v := ?_) (a' := ?_) #[true, true, true, true, true, true, true, true, true, false, true, true, false, false, false, false, false, false, false] rfl rfl (any_of HT_.out pL) (fun _ _ _ h => h) (Or.inl ⟨by rfl, ?_⟩) ?_ ?_
                  rotate_left
                  ·intro w'
                   go_simp
                   with_reducible rfl
                  rotate_left
                  ·exact pP
                  refine pure_ (i := 12) (N := some 65) (v := ?_) (a' := ?_) #[true, true, true, true, true, true, true, true, true, false, true, true, true, false, false, false, false, false, false] rfl rfl (any_of HT_.out pL) (fun _ _ _ h => h) (Or.inl ⟨by rfl, ?_⟩) ?_ ?_
                  rotate_left
                  ·intro w'
                   go_simp
                   with_reducible rfl
                  rotate_left
                  ·exact pP
                  refine take_ (i := 9) (N := some 62) (v := ?_) (a' := ?_) #[true, true, true, true, true, true, true, true, true, true, true, true, true, false, false, false, false, false, false] rfl rfl (take_ofW HT_.out HW_.out pL) (fun _ _ _ h => h) (Or.inl ⟨by rfl, ?_⟩) hHeld ?_ ?_
                  rotate_left
                  ·rintro w' ⟨s0, s1, s2, s3, s4, s5⟩
                   go_simp
                   with_reducible rfl
                  rotate_left
                  ·exact pP
                  refine take_ (i := 13) (N := some 66) (v := ?_) (a' := ?_) #[true, true, true, true, true, true, true, true, true, true, true, true, true, true, false, false, false, false, false] rfl rfl (take_ofW HT_.out HW_.out pL) (fun _ _ _ h => h) (Or.inl ⟨by rfl, ?_⟩) hHeld ?_ ?_
                  rotate_left
                  ·rintro w' ⟨s0, s1, s2, s3, s4, s5⟩
                   go_simp
                   with_reducible rfl
                  rotate_left
                  ·exact pP
                  refine one_ (i := 14) (N := some 67) #[true, true, true, true, true, true, true, true, true, true, true, true, true, true, true, false, false, false, false] rfl rfl (one_of HT_.out pL) (by decide) (fun K hK => ?_)
                  refine goes_ Try.func63 pL rfl #[.agg #[.int .i64 ((rd_T43 l0 x14_3).f0), .int .i64 ((rd_T43 l0 x14_3).f1), .int .i64 ((rd_T43 l0 x14_3).f2)], .agg #[.int .i64 ((rd_T32 l1 x16_4).f0), .int .i64 ((rd_T32 l1 x16_4).f1), .int .i64 ((rd_T32 l1 x16_4).f2)]] (by rfl) rfl rfl pM ?_
                  with_reducible refine (spec_l14May.calls k4 ((rd_T43 l0 x14_3).f0) ((rd_T43 l0 x14_3).f1) ((rd_T43 l0 x14_3).f2) ((rd_T32 l1 x16_4).f0) ((rd_T32 l1 x16_4).f1) ((rd_T32 l1 x16_4).f2) t638 _ A21.out).mono ?_
                  rintro e w23 ⟨rfl, hb⟩
                  refine ⟨_, rfl, ?_⟩
                  have n0_ := Aside0.mk (below_step pB hb)
                  clear HB
                  have HB := n0_
                  clear n0_
                  (try clear hb)
                  (try clear hb2)
                  (try clear hk)
                  (try clear hi)
                  refine hK.out _ _ ⟨((HB.out.cell (World.block_lt_of_cell? w _ hw636_0)).trans hw636_0), ((HB.out.cell (World.block_lt_of_cell? w _ hw636_1)).trans hw636_1), ((HB.out.cell (World.block_lt_of_cell? w _ hw636_2)).trans hw636_2), ((HB.out.cell (World.block_lt_of_cell? w _ hw637_0)).trans hw637_0), ((HB.out.cell (World.block_lt_of_cell? w _ hw637_1)).trans hw637_1), ((HB.out.cell (World.block_lt_of_cell? w _ hw637_2)).trans hw637_2)⟩ (fun hHeld => ?_)
                  clear hK K
                  refine norm_ (a' := ?_) ?_ ?_
                  rotate_left
                  ·show Act.put _ (some 67) _ = _
                   exact pP
                  refine pure_ (i := 15) (N := some 68) (v := ?_) (a' := ?_) #[true, true, true, true, true, true, true, true, true, true, true, true, true, true, true, true, false, false, false] rfl rfl (any_of HT_.out pL) (fun _ _ _ h => h) (Or.inl ⟨by rfl, ?_⟩) ?_ ?_
                  rotate_left
                  ·intro w'
                   go_simp
                   with_reducible rfl
                  rotate_left
                  ·exact pP
                  refine pure_ (i := 16) (N := some 69) (v := ?_) (a' := ?_) #[true, true, true, true, true, true, true, true, true, true, true, true, true, true, true, true, true, false, false] rfl rfl (any_of HT_.out pL) (fun _ _ _ h => h) (Or.inl ⟨by rfl, ?_⟩) ?_ ?_
                  rotate_left
                  ·intro w'
                   go_simp
                   with_reducible rfl
                  rotate_left
                  ·exact pP
                  refine pure_ (i := 17) (N := some 70) (v := ?_) (a' := ?_) #[true, true, true, true, true, true, true, true, true, true, true, true, true, true, true, true, true, true, false] rfl rfl (any_of HT_.out pL) (fun _ _ _ h => h) (Or.inl ⟨by rfl, ?_⟩) ?_ ?_
                  rotate_left
                  ·intro w'
                   go_simp
                   with_reducible rfl
                  rotate_left
                  ·exact pP
                  refine pure_ (i := 18) (N := some 15) (v := ?_) (a' := ?_) #[true, true, true, true, true, true, true, true, true, true, true, true, true, true, true, true, true, true, true] rfl rfl (any_of HT_.out pL) (fun _ _ _ h => h) (Or.inl ⟨by rfl, ?_⟩) ?_ ?_
                  rotate_left
                  ·intro w'
                   go_simp
                   with_reducible rfl
                  rotate_left
                  ·exact pP
                  refine done_ (done_of HT_.out pL) ?_
                  try go_wp2
                  go_roundg k4
                  case measure => have := HK1.out; have := HK2.out; have := HK3.out; have := HK4.out; omega
                  case rel => exact ⟨(!t638), (wrap64 (x16_4 + 1)), pF, pF, H', ⟨by have := HK1.out; have := HK2.out; have := HK3.out; have := HK4.out; omega⟩, ⟨pB⟩⟩
                 ·rw [if_neg c20] at H
                  exact absurd H (by simp)
                ·rw [if_neg c19] at H
                 exact absurd H (by simp)
               ·rw [if_neg c18] at H
                exact absurd H (by simp)
             ·replace c14 := Bool.eq_false_iff.mpr c14
              subst c14
              have H1 : (spec_l14Some.l3 k4 l0 l1 a2 l3 t632 x10_1 x11_2 x12_3 x14_3 false (wrap64 (x16_4 + 1))) = some r := by rw [if_neg (show ¬ (false = true) by decide)] at H; exact H
              clear H
              have H := H1
              clear H1
              have H' := Aside0.mk H
              clear H
              try go_wp2
              have n0_ := Aside0.mk (below_drew1 HB.out)
              clear HB
              have HB := n0_
              clear n0_
              refine start_ (n := 19) (S := fun w' => True) (ds := []) #[false, false, false, false, false, false, false, false, false, false, false, false, false, false, false, false, false, false, false] pL rfl rfl trivial (fun hHeld => ?_); refine with_tabW spec_l14Some.tab19 spec_l14Some.bits19 (fun HT_ HW_ => ?_)
              generalize wr.drew = w24 at HB hHeld ⊢
              refine pure_ (i := 0) (N := some 53) (v := ?_) (a' := ?_) #[true, false, false, false, false, false, false, false, false, false, false, false, false, false, false, false, false, false, false] rfl rfl (any_of HT_.out pL) (fun _ _ _ h => h) (Or.inl ⟨by rfl, ?_⟩) ?_ ?_
              rotate_left
              ·intro w'
               go_simp
               with_reducible rfl
              rotate_left
              ·exact pP
              refine pure_ (i := 1) (N := some 54) (v := ?_) (a' := ?_) #[true, true, false, false, false, false, false, false, false, false, false, false, false, false, false, false, false, false, false] rfl rfl (any_of HT_.out pL) (fun _ _ _ h => h) (Or.inl ⟨by rfl, ?_⟩) ?_ ?_
              rotate_left
              ·intro w'
               go_simp
               with_reducible rfl
              rotate_left
              ·exact pP
              refine pure_ (i := 2) (N := some 55) (v := undef) (a' := ?_) #[true, true, true, false, false, false, false, false, false, false, false, false, false, false, false, false, false, false, false] rfl rfl (any_of HT_.out pL) (fun _ _ _ h => h) (Or.inr ⟨by rfl, rfl⟩) ?_ ?_
              rotate_left
              ·exact pP
              refine pure_ (i := 3) (N := some 56) (v := undef) (a' := ?_) #[true, true, true, true, false, false, false, false, false, false, false, false, false, false, false, false, false, false, false] rfl rfl (any_of HT_.out pL) (fun _ _ _ h => h) (Or.inr ⟨by rfl, rfl⟩) ?_ ?_
              rotate_left
              ·exact pP
              refine pure_ (i := 4) (N := some 57) (v := undef) (a' := ?_) #[true, true, true, true, true, false, false, false, false, false, false, false, false, false, false, false, false, false, false] rfl rfl (any_of HT_.out pL) (fun _ _ _ h => h) (Or.inr ⟨by rfl, rfl⟩) ?_ ?_
              rotate_left
              ·exact pP
              refine pure_ (i := 5) (N := some 58) (v := undef) (a' := ?_) #[true, true, true, true, true, true, false, false, false, false, false, false, false, false, false, false, false, false, false] rfl rfl (any_of HT_.out pL) (fun _ _ _ h => h) (Or.inr ⟨by rfl, rfl⟩) ?_ ?_
              rotate_left
              ·exact pP
              refine pure_ (i := 6) (N := some 59) (v := undef) (a' := ?_) #[true, true, true, true, true, true, true, false, false, false, false, false, false, false, false, false, false, false, false] rfl rfl (any_of HT_.out pL) (fun _ _ _ h => h) (Or.inr ⟨by rfl, rfl⟩) ?_ ?_
              rotate_left
              ·exact pP
              refine pure_ (i := 7) (N := some 60) (v := undef) (a' := ?_) #[true, true, true, true, true, true, true, true, false, false, false, false, false, false, false, false, false, false, false] rfl rfl (any_of HT_.out pL) (fun _ _ _ h => h) (Or.inr ⟨by rfl, rfl⟩) ?_ ?_
              rotate_left
              ·exact pP
              refine pure_ (i := 8) (N := some 61) (v := undef) (a' := ?_) #[true, true, true, true, true, true, true, true, true, false, false, false, false, false, false, false, false, false, false] rfl rfl (any_of HT_.out pL) (fun _ _ _ h => h) (Or.inr ⟨by rfl, rfl⟩) ?_ ?_
              rotate_left
              ·exact pP
              refine pure_ (i := 9) (N := some 62) (v := undef) (a' := ?_) #[true, true, true, true, true, true, true, true, true, true, false, false, false, false, false, false, false, false, false] rfl rfl (any_of HT_.out pL) (fun _ _ _ h => h) (Or.inr ⟨by rfl, rfl⟩) ?_ ?_
              rotate_left
              ·exact pP
              refine pure_ (i := 10) (N := some 63) (v := undef) (a' := ?_) #[true, true, true, true, true, true, true, true, true, true, true, false, false, false, false, false, false, false, false] rfl rfl (any_of HT_.out pL) (fun _ _ _ h => h) (Or.inr ⟨by rfl, rfl⟩) ?_ ?_
              rotate_left
              ·exact pP
              refine pure_ (i := 11) (N := some 64) (v := undef) (a' := ?_) #[true, true, true, true, true, true, true, true, true, true, true, true, false, false, false, false, false, false, false] rfl rfl (any_of HT_.out pL) (fun _ _ _ h => h) (Or.inr ⟨by rfl, rfl⟩) ?_ ?_
              rotate_left
              ·exact pP
              refine pure_ (i := 12) (N := some 65) (v := undef) (a' := ?_) #[true, true, true, true, true, true, true, true, true, true, true, true, true, false, false, false, false, false, false] rfl rfl (any_of HT_.out pL) (fun _ _ _ h => h) (Or.inr ⟨by rfl, rfl⟩) ?_ ?_
              rotate_left
              ·exact pP
              refine pure_ (i := 13) (N := some 66) (v := undef) (a' := ?_) #[true, true, true, true, true, true, true, true, true, true, true, true, true, true, false, false, false, false, false] rfl rfl (any_of HT_.out pL) (fun _ _ _ h => h) (Or.inr ⟨by rfl, rfl⟩) ?_ ?_
              rotate_left
              ·exact pP
              refine pure_ (i := 14) (N := some 67) (v := undef) (a' := ?_) #[true, true, true, true, true, true, true, true, true, true, true, true, true, true, true, false, false, false, false] rfl rfl (any_of HT_.out pL) (fun _ _ _ h => h) (Or.inr ⟨by rfl, rfl⟩) ?_ ?_
              rotate_left
              ·exact pP
              refine pure_ (i := 15) (N := some 68) (v := undef) (a' := ?_) #[true, true, true, true, true, true, true, true, true, true, true, true, true, true, true, true, false, false, false] rfl rfl (any_of HT_.out pL) (fun _ _ _ h => h) (Or.inr ⟨by rfl, rfl⟩) ?_ ?_
              rotate_left
              ·exact pP
              refine pure_ (i := 16) (N := some 69) (v := undef) (a' := ?_) #[true, true, true, true, true, true, true, true, true, true, true, true, true, true, true, true, true, false, false] rfl rfl (any_of HT_.out pL) (fun _ _ _ h => h) (Or.inr ⟨by rfl, rfl⟩) ?_ ?_
              rotate_left
              ·exact pP
              refine pure_ (i := 17) (N := some 70) (v := ?_) (a' := ?_) #[true, true, true, true, true, true, true, true, true, true, true, true, true, true, true, true, true, true, false] rfl rfl (any_of HT_.out pL) (fun _ _ _ h => h) (Or.inl ⟨by rfl, ?_⟩) ?_ ?_
              rotate_left
              ·intro w'
               go_simp
               with_reducible rfl
              rotate_left
              ·exact pP
              refine pure_ (i := 18) (N := some 15) (v := ?_) (a' := ?_) #[true, true, true, true, true, true, true, true, true, true, true, true, true, true, true, true, true, true, true] rfl rfl (any_of HT_.out pL) (fun _ _ _ h => h) (Or.inl ⟨by rfl, ?_⟩) ?_ ?_
              rotate_left
              ·intro w'
               go_simp
               with_reducible rfl
              rotate_left
              ·exact pP
              refine done_ (done_of HT_.out pL) ?_
              try go_wp2
              go_roundg k4
              case measure => have := HK1.out; have := HK2.out; have := HK3.out; have := HK4.out; omega
              case rel => exact ⟨(false), (wrap64 (x16_4 + 1)), pF, pF, H', ⟨by have := HK1.out; have := HK2.out; have := HK3.out; have := HK4.out; omega⟩, ⟨pB⟩⟩
            ·rw [if_neg c13] at H
             have c13b0 : decide (x16_4 < (l1.length : Int)) = false := decide_eq_false c13
             clear c13
             by_cases c25 : x15_4 = true
             ·subst c25
              have H1 : (spec_l14Some.l2 k4 l0 l1 a2 l3 t632 x10_1 x11_2 (wrap64 (x12_3 + 1)) (wrap64 (x14_3 + 1))) = some r := by rw [if_pos rfl] at H; exact H
              clear H
              have H := H1
              clear H1
              have H' := Aside0.mk H
              clear H
              go_wp2
              go_roundg k4
              case measure => have := HK1.out; have := HK2.out; have := HK3.out; have := HK4.out; omega
              case rel => exact ⟨(wrap64 (x12_3 + 1)), (wrap64 (x14_3 + 1)), pF, pF, H', ⟨by have := HK1.out; have := HK2.out; have := HK3.out; have := HK4.out; omega⟩, ⟨pB⟩⟩
             ·replace c25 := Bool.eq_false_iff.mpr c25
              subst c25
              have H1 : (spec_l14Some.l2 k4 l0 l1 a2 l3 t632 x10_1 x11_2 x12_3 (wrap64 (x14_3 + 1))) = some r := by rw [if_neg (show ¬ (false = true) by decide)] at H; exact H
              clear H
              have H := H1
              clear H1
              have H' := Aside0.mk H
              clear H
              go_wp2
              go_roundg k4
              case measure => have := HK1.out; have := HK2.out; have := HK3.out; have := HK4.out; omega
              case rel => exact ⟨(x12_3), (wrap64 (x14_3 + 1)), pF, pF, H', ⟨by have := HK1.out; have := HK2.out; have := HK3.out; have := HK4.out; omega⟩, ⟨pB⟩⟩
         ·rw [if_neg c12] at H
          have c12b0 : decide (x14_3 < (l0.length : Int)) = false := decide_eq_false c12
          clear c12
          by_cases c26 : x12_3 > x11_2
          ·rw [if_pos c26] at H
           have c26b0 : decide (x11_2 < x12_3) = true := decide_eq_true c26
           clear c26
           obtain rfl := Option.some.inj H
           go_wp2
           go_ret
           exact ⟨pE, pB⟩
          ·rw [if_neg c26] at H
           have c26b0 : decide (x11_2 < x12_3) = false := decide_eq_false c26
           clear c26
           have H' := Aside0.mk H
           clear H
           go_wp2
           go_roundg k3
           case measure => have := HK1.out; have := HK2.out; have := HK3.out; omega
           case rel => exact ⟨(wrap64 (x10_1 + 1)), pF, H', ⟨by have := HK1.out; have := HK2.out; have := HK3.out; omega⟩, ⟨pB⟩⟩
   ·rw [if_neg c6] at H
    have c6b0 : decide (x10_1 < t632) = false := decide_eq_false c6
    clear c6
    obtain rfl := Option.some.inj H
    go_wp2
    go_ret
    exact ⟨pE, pB⟩

/-! ### spec_ServeRoom: function 44 -/
mutual
def spec_ServeRoom.l0 : Nat → List (S43) → List (S32) → List Int → List Int → Int → Option (List Int × Bool)
 | 0, _, _, _, _, _ => none
 | k + 1, x0, x1, x6, x7, x8 => if x8 < (x1.length : Int) then (if 0 ≤ x8 then (if x7.length < 17592186044416 then (spec_ServeRoom.l0 k x0 x1 x6 (x7 ++ [(rd_T32 x1 x8).f2]) (wrap64 (x8 + 1))) else (none)) else (none)) else (spec_ServeRoom.l1 k x0 x1 x6 x7 0)
def spec_ServeRoom.l1 : Nat → List (S43) → List (S32) → List Int → List Int → Int → Option (List Int × Bool)
 | 0, _, _, _, _, _ => none
 | k + 1, x0, x1, x6, x7, x9 => if x9 < (x0.length : Int) then (spec_ServeRoom.l2 k x0 x1 x6 x7 x9 false 0) else (some (x6, true))
def spec_ServeRoom.l2 : Nat → List (S43) → List (S32) → List Int → List Int → Int → Bool → Int → Option (List Int × Bool)
 | 0, _, _, _, _, _, _, _ => none
 | k + 1, x0, x1, x6, x7, x9, x10, x11 => if x11 < (x1.length : Int) then (spec_ServeRoom.j3 k x0 x1 x6 x7 x9 x10 x11 (!x10)) else (spec_ServeRoom.j3 k x0 x1 x6 x7 x9 x10 x11 false)
def spec_ServeRoom.j3 : Nat → List (S43) → List (S32) → List Int → List Int → Int → Bool → Int → Bool → Option (List Int × Bool)
 | 0, _, _, _, _, _, _, _, _ => none
 | k + 1, x0, x1, x6, x7, x9, x10, x11, x46 => if x46 = true then (if 0 ≤ x11 then (if x11 < (x7.length : Int) then (if (rd x7 x11) > 0 then (if 0 ≤ x9 then (if x9 < (x0.length : Int) then (if x11 < (x1.length : Int) then ((spec_l14May.f k ((rd_T43 x0 x9).f0) ((rd_T43 x0 x9).f1) ((rd_T43 x0 x9).f2) ((rd_T32 x1 x11).f0) ((rd_T32 x1 x11).f1) ((rd_T32 x1 x11).f2)).bind fun t656 => (spec_ServeRoom.j4 k x0 x1 x6 x7 x9 x10 x11 t656)) else (none)) else (none)) else (none)) else (spec_ServeRoom.j4 k x0 x1 x6 x7 x9 x10 x11 false)) else (none)) else (none)) else (if x10 = true then (spec_ServeRoom.l1 k x0 x1 x6 x7 (wrap64 (x9 + 1))) else (some ((([] : List Int)), false)))
def spec_ServeRoom.j4 : Nat → List (S43) → List (S32) → List Int → List Int → Int → Bool → Int → Bool → Option (List Int × Bool)
 | 0, _, _, _, _, _, _, _, _ => none
 | k + 1, x0, x1, x6, x7, x9, x10, x11, x64 => if x64 = true then (if 0 ≤ x11 then (if x11 < (x7.length : Int) then ((some (x7.set (x11 : Int).toNat (wrap64 ((rd x7 x11) - 1)) : List Int)).bind fun y658 => ((spec_l14Some.f k x0 x1 (wrap64 (x9 + 1)) y658).bind fun t659 => (if t659 = true then (if x6.length < 17592186044416 then (spec_ServeRoom.l2 k x0 x1 (x6 ++ [x11]) y658 x9 t659 (wrap64 (x11 + 1))) else (none)) else (spec_ServeRoom.l2 k x0 x1 x6 (y658.set (x11 : Int).toNat (wrap64 ((rd y658 x11) + 1))) x9 t659 (wrap64 (x11 + 1)))))) else (none)) else (none)) else (spec_ServeRoom.l2 k x0 x1 x6 x7 x9 x10 (wrap64 (x11 + 1)))
end
def spec_ServeRoom.f (k : Nat) (l0 : List (S43)) (l1 : List (S32)) : Option (List Int × Bool) := (some (([] : List Int) : List Int)).bind fun y639 => ((spec_l14Ok.f k l0 l1).bind fun t642 => (if t642 = true then (spec_ServeRoom.l0 k l0 l1 y639 (([] : List Int)) 0) else (some (y639, false))))
theorem spec_ServeRoom.mono_l : ∀ k, (∀ y0 y1 y2 y3 y4, LeO (spec_ServeRoom.l0 k y0 y1 y2 y3 y4) (spec_ServeRoom.l0 (k + 1) y0 y1 y2 y3 y4)) ∧ (∀ y0 y1 y2 y3 y4, LeO (spec_ServeRoom.l1 k y0 y1 y2 y3 y4) (spec_ServeRoom.l1 (k + 1) y0 y1 y2 y3 y4)) ∧ (∀ y0 y1 y2 y3 y4 y5 y6, LeO (spec_ServeRoom.l2 k y0 y1 y2 y3 y4 y5 y6) (spec_ServeRoom.l2 (k + 1) y0 y1 y2 y3 y4 y5 y6)) ∧ (∀ y0 y1 y2 y3 y4 y5 y6 y7, LeO (spec_ServeRoom.j3 k y0 y1 y2 y3 y4 y5 y6 y7) (spec_ServeRoom.j3 (k + 1) y0 y1 y2 y3 y4 y5 y6 y7)) ∧ (∀ y0 y1 y2 y3 y4 y5 y6 y7, LeO (spec_ServeRoom.j4 k y0 y1 y2 y3 y4 y5 y6 y7) (spec_ServeRoom.j4 (k + 1) y0 y1 y2 y3 y4 y5 y6 y7))
 | 0 => ⟨fun _ _ _ _ _ r h => by simp [spec_ServeRoom.l0] at h, fun _ _ _ _ _ r h => by simp [spec_ServeRoom.l1] at h, fun _ _ _ _ _ _ _ r h => by simp [spec_ServeRoom.l2] at h, fun _ _ _ _ _ _ _ _ r h => by simp [spec_ServeRoom.j3] at h, fun _ _ _ _ _ _ _ _ r h => by simp [spec_ServeRoom.j4] at h⟩
 | k + 1 => by
  obtain ⟨ih0, ih1, ih2, ih3, ih4⟩ := spec_ServeRoom.mono_l k
  refine ⟨?_, ?_, ?_, ?_, ?_⟩
  ·intro y0 y1 y2 y3 y4
   unfold spec_ServeRoom.l0
   repeat' first
   | (with_reducible exact ih0 _ _ _ _ _)
   | (with_reducible exact ih1 _ _ _ _ _)
   | (with_reducible exact ih2 _ _ _ _ _ _ _)
   | (with_reducible exact ih3 _ _ _ _ _ _ _ _)
   | (with_reducible exact ih4 _ _ _ _ _ _ _ _)
   | (with_reducible exact spec_l14May.mono _ _ _ _ _ _ _)
   | (with_reducible exact spec_l14Ok.mono _ _ _)
   | (with_reducible exact spec_l14Some.mono _ _ _ _ _)
   | (with_reducible exact LeO.refl _)
   | (with_reducible exact LeO.none _)
   | (with_reducible refine LeO.ite ?_ ?_)
   | (with_reducible refine LeO.bind ?_ (fun _ => ?_))
   | exact ih0 _ _ _ _ _
   | exact ih1 _ _ _ _ _
   | exact ih2 _ _ _ _ _ _ _
   | exact ih3 _ _ _ _ _ _ _ _
   | exact ih4 _ _ _ _ _ _ _ _
   | exact spec_l14May.mono _ _ _ _ _ _ _
   | exact spec_l14Ok.mono _ _ _
   | exact spec_l14Some.mono _ _ _ _ _
   | exact LeO.none _
   | refine LeO.ite ?_ ?_
   | refine LeO.bind ?_ (fun _ => ?_)
  ·intro y0 y1 y2 y3 y4
   unfold spec_ServeRoom.l1
   repeat' first
   | (with_reducible exact ih0 _ _ _ _ _)
   | (with_reducible exact ih1 _ _ _ _ _)
   | (with_reducible exact ih2 _ _ _ _ _ _ _)
   | (with_reducible exact ih3 _ _ _ _ _ _ _ _)
   | (with_reducible exact ih4 _ _ _ _ _ _ _ _)
   | (with_reducible exact spec_l14May.mono _ _ _ _ _ _ _)
   | (with_reducible exact spec_l14Ok.mono _ _ _)
   | (with_reducible exact spec_l14Some.mono _ _ _ _ _)
   | (with_reducible exact LeO.refl _)
   | (with_reducible exact LeO.none _)
   | (with_reducible refine LeO.ite ?_ ?_)
   | (with_reducible refine LeO.bind ?_ (fun _ => ?_))
   | exact ih0 _ _ _ _ _
   | exact ih1 _ _ _ _ _
   | exact ih2 _ _ _ _ _ _ _
   | exact ih3 _ _ _ _ _ _ _ _
   | exact ih4 _ _ _ _ _ _ _ _
   | exact spec_l14May.mono _ _ _ _ _ _ _
   | exact spec_l14Ok.mono _ _ _
   | exact spec_l14Some.mono _ _ _ _ _
   | exact LeO.none _
   | refine LeO.ite ?_ ?_
   | refine LeO.bind ?_ (fun _ => ?_)
  ·intro y0 y1 y2 y3 y4 y5 y6
   unfold spec_ServeRoom.l2
   repeat' first
   | (with_reducible exact ih0 _ _ _ _ _)
   | (with_reducible exact ih1 _ _ _ _ _)
   | (with_reducible exact ih2 _ _ _ _ _ _ _)
   | (with_reducible exact ih3 _ _ _ _ _ _ _ _)
   | (with_reducible exact ih4 _ _ _ _ _ _ _ _)
   | (with_reducible exact spec_l14May.mono _ _ _ _ _ _ _)
   | (with_reducible exact spec_l14Ok.mono _ _ _)
   | (with_reducible exact spec_l14Some.mono _ _ _ _ _)
   | (with_reducible exact LeO.refl _)
   | (with_reducible exact LeO.none _)
   | (with_reducible refine LeO.ite ?_ ?_)
   | (with_reducible refine LeO.bind ?_ (fun _ => ?_))
   | exact ih0 _ _ _ _ _
   | exact ih1 _ _ _ _ _
   | exact ih2 _ _ _ _ _ _ _
   | exact ih3 _ _ _ _ _ _ _ _
   | exact ih4 _ _ _ _ _ _ _ _
   | exact spec_l14May.mono _ _ _ _ _ _ _
   | exact spec_l14Ok.mono _ _ _
   | exact spec_l14Some.mono _ _ _ _ _
   | exact LeO.none _
   | refine LeO.ite ?_ ?_
   | refine LeO.bind ?_ (fun _ => ?_)
  ·intro y0 y1 y2 y3 y4 y5 y6 y7
   unfold spec_ServeRoom.j3
   repeat' first
   | (with_reducible exact ih0 _ _ _ _ _)
   | (with_reducible exact ih1 _ _ _ _ _)
   | (with_reducible exact ih2 _ _ _ _ _ _ _)
   | (with_reducible exact ih3 _ _ _ _ _ _ _ _)
   | (with_reducible exact ih4 _ _ _ _ _ _ _ _)
   | (with_reducible exact spec_l14May.mono _ _ _ _ _ _ _)
   | (with_reducible exact spec_l14Ok.mono _ _ _)
   | (with_reducible exact spec_l14Some.mono _ _ _ _ _)
   | (with_reducible exact LeO.refl _)
   | (with_reducible exact LeO.none _)
   | (with_reducible refine LeO.ite ?_ ?_)
   | (with_reducible refine LeO.bind ?_ (fun _ => ?_))
   | exact ih0 _ _ _ _ _
   | exact ih1 _ _ _ _ _
   | exact ih2 _ _ _ _ _ _ _
   | exact ih3 _ _ _ _ _ _ _ _
   | exact ih4 _ _ _ _ _ _ _ _
   | exact spec_l14May.mono _ _ _ _ _ _ _
   | exact spec_l14Ok.mono _ _ _
   | exact spec_l14Some.mono _ _ _ _ _
   | exact LeO.none _
   | refine LeO.ite ?_ ?_
   | refine LeO.bind ?_ (fun _ => ?_)
  ·intro y0 y1 y2 y3 y4 y5 y6 y7
   unfold spec_ServeRoom.j4
   repeat' first
   | (with_reducible exact ih0 _ _ _ _ _)
   | (with_reducible exact ih1 _ _ _ _ _)
   | (with_reducible exact ih2 _ _ _ _ _ _ _)
   | (with_reducible exact ih3 _ _ _ _ _ _ _ _)
   | (with_reducible exact ih4 _ _ _ _ _ _ _ _)
   | (with_reducible exact spec_l14May.mono _ _ _ _ _ _ _)
   | (with_reducible exact spec_l14Ok.mono _ _ _)
   | (with_reducible exact spec_l14Some.mono _ _ _ _ _)
   | (with_reducible exact LeO.refl _)
   | (with_reducible exact LeO.none _)
   | (with_reducible refine LeO.ite ?_ ?_)
   | (with_reducible refine LeO.bind ?_ (fun _ => ?_))
   | exact ih0 _ _ _ _ _
   | exact ih1 _ _ _ _ _
   | exact ih2 _ _ _ _ _ _ _
   | exact ih3 _ _ _ _ _ _ _ _
   | exact ih4 _ _ _ _ _ _ _ _
   | exact spec_l14May.mono _ _ _ _ _ _ _
   | exact spec_l14Ok.mono _ _ _
   | exact spec_l14Some.mono _ _ _ _ _
   | exact LeO.none _
   | refine LeO.ite ?_ ?_
   | refine LeO.bind ?_ (fun _ => ?_)
theorem spec_ServeRoom.mono : ∀ a0 a1 k, LeO (spec_ServeRoom.f k a0 a1) (spec_ServeRoom.f (k + 1) a0 a1) := by
 intro a0 a1 k
 obtain ⟨ih0, ih1, ih2, ih3, ih4⟩ := spec_ServeRoom.mono_l k
 unfold spec_ServeRoom.f
 repeat' first
   | (with_reducible exact ih0 _ _ _ _ _)
   | (with_reducible exact ih1 _ _ _ _ _)
   | (with_reducible exact ih2 _ _ _ _ _ _ _)
   | (with_reducible exact ih3 _ _ _ _ _ _ _ _)
   | (with_reducible exact ih4 _ _ _ _ _ _ _ _)
   | (with_reducible exact spec_l14May.mono _ _ _ _ _ _ _)
   | (with_reducible exact spec_l14Ok.mono _ _ _)
   | (with_reducible exact spec_l14Some.mono _ _ _ _ _)
   | (with_reducible exact LeO.refl _)
   | (with_reducible exact LeO.none _)
   | (with_reducible refine LeO.ite ?_ ?_)
   | (with_reducible refine LeO.bind ?_ (fun _ => ?_))
   | exact ih0 _ _ _ _ _
   | exact ih1 _ _ _ _ _
   | exact ih2 _ _ _ _ _ _ _
   | exact ih3 _ _ _ _ _ _ _ _
   | exact ih4 _ _ _ _ _ _ _ _
   | exact spec_l14May.mono _ _ _ _ _ _ _
   | exact spec_l14Ok.mono _ _ _
   | exact spec_l14Some.mono _ _ _ _ _
   | exact LeO.none _
   | refine LeO.ite ?_ ?_
   | refine LeO.bind ?_ (fun _ => ?_)
def spec_ServeRoom.T16 : Bool × List (List Nat × List Nat) := (true, [([], []), ([], []), ([0, 1], [0, 1]), ([2], [2]), ([3], [3]), ([4], [4]), ([5], [5]), ([5], [5]), ([6, 7, 5], [5, 6, 7]), ([8, 5], [5, 8]), ([5], [5]), ([5], [5]), ([10, 11, 5], [5, 10, 11]), ([12, 5], [5, 12]), ([9, 13, 5, 5], [5, 9, 13]), ([5, 14], [5, 14])])
def spec_ServeRoom.B16 : List Nat := [0, 0, 3, 7, 15, 31, 63, 63, 255, 511, 63, 63, 3135, 7231, 16383, 32767]
theorem spec_ServeRoom.tab16 : rtab .any (opsOf Try.f44 16) = spec_ServeRoom.T16 := by kernel_rfl
theorem spec_ServeRoom.bits16 : waitsOk spec_ServeRoom.T16.2 spec_ServeRoom.B16 = true := by kernel_rfl
set_option maxHeartbeats 8000000 in
set_option maxRecDepth 100000 in
theorem spec_ServeRoom.calls (k : Nat) (A0 : Option Addr) (c0 : Nat) (l0 : List (S43)) (A1 : Option Addr) (c1 : Nat) (l1 : List (S32)) (r1 : List Int) (r2 : Bool) (w : World) (hr0 : Kd.C k43 w A0 l0.length l0) (hc0 : l0.length ≤ c0) (hr1 : Kd.C k32 w A1 l1.length l1) (hc1 : l1.length ≤ c1) (h : spec_ServeRoom.f k l0 l1 = some (r1, r2)) :
  Calls Try.prog 44 #[.slice A0 l0.length c0, .slice A1 l1.length c1] w fun e w' => ∃ v0_ : Value, e = .returned (.tuple #[v0_, .bool r2]) ∧ Kd.R (Kd.int .i64) 3 w' w.heap.size (fun _ => True) v0_ r1 ∧ Below w.heap.size w w' := by
 have hu43 := Try.underlying43
 have hu32 := Try.underlying32
 have HR0 := Aside0.mk hr0
 have HC0 := Aside0.mk hc0
 clear hr0 hc0
 have HR1 := Aside0.mk hr1
 have HC1 := Aside0.mk hc1
 clear hr1 hc1
 have HB := Aside0.mk (Below.refl w.heap.size w)
 have H : ((some (([] : List Int) : List Int)).bind fun y639 => ((spec_l14Ok.f k l0 l1).bind fun t642 => (if t642 = true then (spec_ServeRoom.l0 k l0 l1 y639 (([] : List Int)) 0) else (some (y639, false))))) = some (r1, r2) := h
 clear h
 obtain ⟨y639, hy639⟩ : ∃ y_ : List Int, y_ = (([] : List Int)) := ⟨_, rfl⟩
 replace H : ((spec_l14Ok.f k l0 l1).bind fun t642 => (if t642 = true then (spec_ServeRoom.l0 k l0 l1 y639 (([] : List Int)) 0) else (some (y639, false)))) = some (r1, r2) := by first | (rw [hy639]; with_reducible exact H) | (have H2_ := (Option.bind_some _ _).symm.trans H; rw [hy639]; with_reducible exact H2_) | (have H2_ := (Option.bind_some _ _).symm.trans H; with_reducible exact H2_) | with_reducible exact H | (rw [hy639]; exact H) | exact H
 have Ny639 := Aside0.mk hy639
 clear hy639
 replace H := Option.bind_eq_some_iff.mp H
 obtain ⟨t642, A30, H⟩ := H
 replace H : (if t642 = true then (spec_ServeRoom.l0 k l0 l1 y639 (([] : List Int)) 0) else (some (y639, false))) = some (r1, r2) := H
 have A3 := Aside0.mk A30
 clear A30
 by_cases c4 : t642 = true
 ·subst c4
  have H1 : (spec_ServeRoom.l0 k l0 l1 y639 (([] : List Int)) 0) = some (r1, r2) := by rw [if_pos rfl] at H; exact H
  clear H
  have H := H1
  clear H1
  obtain ⟨y643, hy643⟩ : ∃ y_ : List Int, y_ = (([] : List Int)) := ⟨_, rfl⟩
  replace H : (spec_ServeRoom.l0 k l0 l1 y639 y643 0) = some (r1, r2) := by first | (rw [hy643]; with_reducible exact H) | (have H2_ := (Option.bind_some _ _).symm.trans H; rw [hy643]; with_reducible exact H2_) | (have H2_ := (Option.bind_some _ _).symm.trans H; with_reducible exact H2_) | with_reducible exact H | (rw [hy643]; exact H) | exact H
  have Ny643 := Aside0.mk hy643
  clear hy643
  have H' := Aside0.mk H
  clear H
  go_enter Try.func44, Try.ntmps44
  go_wp2_with (first | ((with_reducible refine gate_dst (N := 12) rfl ?_); refine Kd.R_lit (Kd.int .i64) _ 3 ?hg (N := 12) ?hd (xs := ([] : List Int)) (inner := []) (ok := fun _ => True) (okp := fun _ => True) ?hr ?hp (fun _ hk => hk) trivial (Below.refl _ _) (Nat.le_refl _) (by simp) ?_; (case hd => rfl); (case hg => rfl); (case hr => first | (go_simp; done) | (go_simp; rfl)); (case hp => exact (Reps.none _ _)); intro v640 w5 ho6 hb hg_ hnew_; clear hg_ hnew_; (first | rw [← Ny639.out] at ho6 | (simp only [Int.reduceToNat] at ho6; rw [← Ny639.out] at ho6)); have n0_ := Aside0.mk (Kd.R_lower ho6 (below_size pB)); have n1_ := Aside0.mk (below_step pB hb); clear HB; have HO641 := n0_; have HB := n1_; clear n0_ n1_; clear hb ho6) | ((with_reducible refine gate_callee (f := 62) rfl ?_); refine goesL_ (some 15) rfl rfl Try.func62 pL rfl #[.slice A0 l0.length c0, .slice A1 l1.length c1] rfl pM ?_; (with_reducible refine (spec_l14Ok.calls k _ _ l0 _ _ l1 true _ ?side1 ?side2 ?side3 ?side4 A3.out).mono ?_); (case side1 => exact pS ((Kd.C_below HR0.out HB.out))); (case side2 => exact HC0.out); (case side3 => exact pS ((Kd.C_below HR1.out HB.out))); (case side4 => exact HC1.out); rintro e w7 ⟨rfl, hb⟩; refine ⟨_, rfl, ?_⟩; have n0_ := Aside0.mk (Kd.R_below (pR HO641) hb); have n1_ := Aside0.mk (below_step pB hb); clear HO641; clear HB; have HO641 := n0_; have HB := n1_; clear n0_ n1_; (try clear hb); (try clear hb2); (try clear hk); (try clear hi)) | ((with_reducible refine gate_dst (N := 18) rfl ?_); refine Kd.R_lit (Kd.int .i64) _ 3 ?hg (N := 18) ?hd (xs := ([] : List Int)) (inner := []) (ok := fun _ => True) (okp := fun _ => True) ?hr ?hp (fun _ hk => hk) trivial (Below.refl _ _) (Nat.le_refl _) (by simp) ?_; (case hd => rfl); (case hg => rfl); (case hr => first | (go_simp; done) | (go_simp; rfl)); (case hp => exact (Reps.none _ _)); intro v644 w8 ho9 hb hg_ hnew_; clear hg_ hnew_; (first | rw [← Ny643.out] at ho9 | (simp only [Int.reduceToNat] at ho9; rw [← Ny643.out] at ho9)); have n0_ := Aside0.mk (Kd.R_elder' (pR HO641) (Kd.R_base ho9) hb); have n1_ := Aside0.mk (Kd.R_lower (Kd.R_new' ho9 (Kd.R_lt (pR HO641))) (below_size pB)); have n2_ := Aside0.mk (below_step pB hb); clear HO641; clear HB; have HO641 := n0_; have HO645 := n1_; have HB := n2_; clear n0_ n1_ n2_; clear hb ho9))
  go_loopg [7, 8] k (fun kq v7 v8 w' => ∃ (x7_1 : List Int) (x8_1 : Int), v8 = .int .i64 x8_1 ∧ Aside0 (spec_ServeRoom.l0 kq l0 l1 y639 x7_1 x8_1 = some (r1, r2)) ∧ Aside0 (kq ≤ k) ∧ Aside0 (Kd.R (Kd.int .i64) 3 w' w.heap.size (fun k_ => some k_ ≠ (v7 : Value).ownBlock) v640 y639) ∧ Aside0 (Kd.R (Kd.int .i64) 3 w' w.heap.size (fun k_ => some k_ ≠ (v640 : Value).ownBlock) v7 x7_1) ∧ Aside0 (Below w.heap.size w w'))
  case atStart => exact ⟨(y643), (0), pF, H', ⟨Nat.le_refl _⟩, ⟨by (with_reducible repeat (first | apply Kd.R_alloc | apply Kd.R_drewN | apply Kd.R_drew)); exact Kd.R_mono HO641.out (fun _ hk => hk.2)⟩, ⟨by (with_reducible repeat (first | apply Kd.R_alloc | apply Kd.R_drewN | apply Kd.R_drew)); exact Kd.R_mono HO645.out (fun _ hk => hk.2)⟩, ⟨pB⟩⟩
  case round =>
   clear H'
   try clear c1
   try clear p2
   try clear c4
   try clear c6
   obtain ⟨x7_1, x8_1, rfl, HA, HK1, HO_6, HO_7, HB⟩ := hrel
   cases gk with
   | zero => exact absurd HA.out (by simp [spec_ServeRoom.l0])
   | succ k1 =>
    have H := HA.out
    clear HA
    simp only [spec_ServeRoom.l0] at H
    by_cases c10 : x8_1 < (l1.length : Int)
    ·rw [if_pos c10] at H
     have c10b0 : decide (x8_1 < (l1.length : Int)) = true := decide_eq_true c10
     clear c10
     by_cases c11 : 0 ≤ x8_1
     ·rw [if_pos c11] at H
      have c11b0 : decide (0 ≤ x8_1) = true := decide_eq_true c11
      clear c11
      by_cases c12 : x7_1.length < 17592186044416
      ·rw [if_pos c12] at H
       have LMc12 := Aside0.mk c12
       clear c12
       obtain ⟨y647, hy647⟩ : ∃ y_ : List Int, y_ = (x7_1 ++ [(rd_T32 l1 x8_1).f2]) := ⟨_, rfl⟩
       replace H : (spec_ServeRoom.l0 k1 l0 l1 y639 y647 (wrap64 (x8_1 + 1))) = some (r1, r2) := by first | (rw [hy647]; with_reducible exact H) | (have H2_ := (Option.bind_some _ _).symm.trans H; rw [hy647]; with_reducible exact H2_) | (have H2_ := (Option.bind_some _ _).symm.trans H; with_reducible exact H2_) | with_reducible exact H | (rw [hy647]; exact H) | exact H
       have Ny647 := Aside0.mk hy647
       clear hy647
       have H' := Aside0.mk H
       clear H
       have p646 : 0 ≤ (x8_1 : Int) := of_decide_eq_true pA
       have q646 : x8_1 < (l1.length : Int) := of_decide_eq_true pA
       obtain ⟨ad646, e646, hx646_0, hx646_1, hx646_2⟩ := at_T32 HR1.out x8_1 p646 q646
       cases e646
       replace hx646_0 := (HB.out.cell (World.block_lt_of_cell? w _ hx646_0)).trans hx646_0
       replace hx646_1 := (HB.out.cell (World.block_lt_of_cell? w _ hx646_1)).trans hx646_1
       replace hx646_2 := (HB.out.cell (World.block_lt_of_cell? w _ hx646_2)).trans hx646_2
       replace p646 := eq_true p646
       replace q646 := eq_true q646
       go_wp2_with (first | ((with_reducible refine gate_builtin (b := .append) (xs := #[.tmp 25, .tmp 31]) rfl ?_); at_builtin; refine Kd.R_append (Kd.int .i64) (w0 := w) w.heap.size rfl (.tmp 25) (.tmp 31) 37 3 (.int .i64 0) 8 rfl Try.underlying37 info3 rfl (by decide) (by omega) u7 x7_1 ((rd_T32 l1 x8_1).f2) [.int .i64 ((rd_T32 l1 x8_1).f2)] (fun k_ => some k_ ≠ (v640 : Value).ownBlock) (fun _ => False) rfl rfl ?aP (fun _ hk => hk.elim) ?aF ?aO ?aB ?aS ?aL ?_; (case aP => exact rfl); (case aB => exact pB); (case aF => exact (fun k_ hk => Kd.fresh' (Kd.R_lt (pR HO_6)) k_ hk)); (case aO => exact (pR HO_7)); (case aS => exact (below_size pB)); (case aL => have := LMc12.out; omega); intro v648 w13 ho hb hg hat; rw [← Ny647.out] at ho; have n0_ := Aside0.mk (Kd.R_after (ok := (fun _ => True)) (by (with_reducible repeat (first | apply Kd.R_alloc | apply Kd.R_drewN | apply Kd.R_drew)); exact Kd.R_mono HO_6.out (fun _ hk => ⟨trivial, hk⟩)) hg hat); have n1_ := Aside0.mk (hb); have n2_ := Aside0.mk (ho); clear HO_6; clear HB; clear HO_7; have HO_6 := n0_; have HB := n1_; have HO649 := n2_; clear n0_ n1_ n2_; clear ho hb hg hat))
       go_roundg k1
       case measure => have := HK1.out; omega
       case rel => exact ⟨(y647), (wrap64 (x8_1 + 1)), pF, H', ⟨by have := HK1.out; omega⟩, ⟨by (with_reducible repeat (first | apply Kd.R_alloc | apply Kd.R_drewN | apply Kd.R_drew)); exact Kd.R_mono HO_6.out (fun _ hk => hk.2)⟩, ⟨pR HO649⟩, ⟨pB⟩⟩
      ·rw [if_neg c12] at H
       exact absurd H (by simp)
     ·rw [if_neg c11] at H
      exact absurd H (by simp)
    ·rw [if_neg c10] at H
     have c10b0 : decide (x8_1 < (l1.length : Int)) = false := decide_eq_false c10
     clear c10
     have H' := Aside0.mk H
     clear H
     go_wp2
     go_loopg [6, 9] k1 (fun kq v6 v9 w' => ∃ (x6_2 : List Int) (x7_2 : List Int) (x9_2 : Int), v9 = .int .i64 x9_2 ∧ Aside0 (spec_ServeRoom.l1 kq l0 l1 x6_2 x7_2 x9_2 = some (r1, r2)) ∧ Aside0 (kq ≤ k1) ∧ Aside0 (Kd.R (Kd.int .i64) 3 w' w.heap.size (fun k_ => some k_ ≠ (u7 : Value).ownBlock) v6 x6_2) ∧ Aside0 (Kd.R (Kd.int .i64) 3 w' w.heap.size (fun k_ => some k_ ≠ (v6 : Value).ownBlock) u7 x7_2) ∧ Aside0 (Below w.heap.size w w'))
     case atStart => exact ⟨(y639), (x7_1), (0), pF, H', ⟨Nat.le_refl _⟩, ⟨pR HO_6⟩, ⟨pR HO_7⟩, ⟨pB⟩⟩
     case round =>
      clear H'
      try clear c1
      try clear p2
      try clear c4
      try clear c6
      try clear p6
      try clear q6
      try clear hx6
      try clear c10
      try clear c10b0
      try clear c11
      try clear c11b0
      try clear c12
      try clear hx646_0
      try clear hx646_1
      try clear hx646_2
      try clear p2
      try clear p646
      try clear q646
      obtain ⟨x6_2, x7_2, x9_2, rfl, HA, HK2, HO_6, HO_7, HB⟩ := hrel
      cases gk with
      | zero => exact absurd HA.out (by simp [spec_ServeRoom.l1])
      | succ k2 =>
       have H := HA.out
       clear HA
       simp only [spec_ServeRoom.l1] at H
       by_cases c14 : x9_2 < (l0.length : Int)
       ·rw [if_pos c14] at H
        have c14b0 : decide (x9_2 < (l0.length : Int)) = true := decide_eq_true c14
        clear c14
        have H' := Aside0.mk H
        clear H
        go_wp2
        go_loopg [6, 10, 11] k2 (fun kq v6 v10 v11 w' => ∃ (x6_3 : List Int) (x7_3 : List Int) (x10_3 : Bool) (x11_3 : Int), v10 = .bool x10_3 ∧ v11 = .int .i64 x11_3 ∧ Aside0 (spec_ServeRoom.l2 kq l0 l1 x6_3 x7_3 x9_2 x10_3 x11_3 = some (r1, r2)) ∧ Aside0 (kq ≤ k2) ∧ Aside0 (Kd.R (Kd.int .i64) 3 w' w.heap.size (fun k_ => some k_ ≠ (u7 : Value).ownBlock) v6 x6_3) ∧ Aside0 (Kd.R (Kd.int .i64) 3 w' w.heap.size (fun k_ => some k_ ≠ (v6 : Value).ownBlock) u7 x7_3) ∧ Aside0 (Below w.heap.size w w'))
        case atStart => exact ⟨(x6_2), (x7_2), (false), (0), pF, pF, H', ⟨Nat.le_refl _⟩, ⟨pR HO_6⟩, ⟨pR HO_7⟩, ⟨pB⟩⟩
        case round =>
         clear H'
         try clear c1
         try clear p2
         try clear c4
         try clear c6
         try clear p6
         try clear q6
         try clear hx6
         try clear c10
         try clear c10b0
         try clear c11
         try clear c11b0
         try clear c12
         try clear c14
         try clear c14b0
         try clear hx646_0
         try clear hx646_1
         try clear hx646_2
         try clear p2
         try clear p6
         try clear p646
         try clear q6
         try clear q646
         obtain ⟨x6_3, x7_3, x10_3, x11_3, rfl, rfl, HA, HK3, HO_6, HO_7, HB⟩ := hrel
         cases gk with
         | zero => exact absurd HA.out (by simp [spec_ServeRoom.l2])
         | succ k3 =>
          have H := HA.out
          clear HA
          simp only [spec_ServeRoom.l2] at H
          have HC15 := Aside0.mk H
          clear H
          go_upto_region 14 with (fail)
          go_cut [46] (fun v46 wc => ∃ (kq : Nat) (x46_14 : Bool), v46 = .bool x46_14 ∧ Aside0 (spec_ServeRoom.j3 kq l0 l1 x6_3 x7_3 x9_2 x10_3 x11_3 x46_14 = some (r1, r2)) ∧ Aside0 (kq ≤ k3) ∧ Aside0 (Kd.R (Kd.int .i64) 3 wc w.heap.size (fun k_ => some k_ ≠ (u7 : Value).ownBlock) u6 x6_3) ∧ Aside0 (Kd.R (Kd.int .i64) 3 wc w.heap.size (fun k_ => some k_ ≠ (u6 : Value).ownBlock) u7 x7_3) ∧ Aside0 (Below w.heap.size w wc))
          case first =>
           have H := HC15.out
           clear HC15
           by_cases c16 : x11_3 < (l1.length : Int)
           ·rw [if_pos c16] at H
            have c16b0 : decide (x11_3 < (l1.length : Int)) = true := decide_eq_true c16
            clear c16
            (first | rw [c16b0] | (simp only [i64_w, i32_w]; rw [c16b0]) | skip)
            have H' := Aside0.mk H
            clear H
            go_wp2
            go_meet
            case rel => exact ⟨_, (!x10_3), pF, H', ⟨by have := HK1.out; have := HK2.out; have := HK3.out; first | omega | exact Nat.le_refl _⟩, ⟨pR HO_6⟩, ⟨pR HO_7⟩, ⟨pB⟩⟩
           ·rw [if_neg c16] at H
            have c16b0 : decide (x11_3 < (l1.length : Int)) = false := decide_eq_false c16
            clear c16
            (first | rw [c16b0] | (simp only [i64_w, i32_w]; rw [c16b0]) | skip)
            have H' := Aside0.mk H
            clear H
            go_wp2
            go_meet
            case rel => exact ⟨_, (false), pF, H', ⟨by have := HK1.out; have := HK2.out; have := HK3.out; first | omega | exact Nat.le_refl _⟩, ⟨pR HO_6⟩, ⟨pR HO_7⟩, ⟨pB⟩⟩
          case rest =>
           clear HC15
           try clear c1
           try clear p2
           try clear c4
           try clear c6
           try clear p6
           try clear q6
           try clear hx6
           try clear c10
           try clear c10b0
           try clear c11
           try clear c11b0
           try clear c12
           try clear c14
           try clear c14b0
           try clear c16
           try clear c16b0
           try clear hx646_0
           try clear hx646_1
           try clear hx646_2
           try clear p2
           try clear p6
           try clear p646
           try clear q6
           try clear q646
           obtain ⟨kq, x46_14, rfl, HA, HJ14, HO_6, HO_7, HB⟩ := hcut
           cases kq with
           | zero => exact absurd HA.out (by simp [spec_ServeRoom.j3])
           | succ kj14 =>
            have H := HA.out
            clear HA
            simp only [spec_ServeRoom.j3] at H
            by_cases c17 : x46_14 = true
            ·subst c17
             have H1 : (if 0 ≤ x11_3 then (if x11_3 < (x7_3.length : Int) then (if (rd x7_3 x11_3) > 0 then (if 0 ≤ x9_2 then (if x9_2 < (l0.length : Int) then (if x11_3 < (l1.length : Int) then ((spec_l14May.f kj14 ((rd_T43 l0 x9_2).f0) ((rd_T43 l0 x9_2).f1) ((rd_T43 l0 x9_2).f2) ((rd_T32 l1 x11_3).f0) ((rd_T32 l1 x11_3).f1) ((rd_T32 l1 x11_3).f2)).bind fun t656 => (spec_ServeRoom.j4 kj14 l0 l1 x6_3 x7_3 x9_2 x10_3 x11_3 t656)) else (none)) else (none)) else (none)) else (spec_ServeRoom.j4 kj14 l0 l1 x6_3 x7_3 x9_2 x10_3 x11_3 false)) else (none)) else (none)) = some (r1, r2) := by rw [if_pos rfl] at H; exact H
             clear H
             have H := H1
             clear H1
             have HC18 := Aside0.mk H
             clear H
             go_upto_region 16 with (fail)
             go_cut [64] (fun v64 wc => ∃ (kq : Nat) (x64_17 : Bool), v64 = .bool x64_17 ∧ Aside0 (spec_ServeRoom.j4 kq l0 l1 x6_3 x7_3 x9_2 x10_3 x11_3 x64_17 = some (r1, r2)) ∧ Aside0 (kq ≤ kj14) ∧ Aside0 (Kd.R (Kd.int .i64) 3 wc w.heap.size (fun k_ => some k_ ≠ (u7 : Value).ownBlock) u6 x6_3) ∧ Aside0 (Kd.R (Kd.int .i64) 3 wc w.heap.size (fun k_ => some k_ ≠ (u6 : Value).ownBlock) u7 x7_3) ∧ Aside0 (Below w.heap.size w wc))
             case first =>
              have H := HC18.out
              clear HC18
              by_cases c19 : 0 ≤ x11_3
              ·rw [if_pos c19] at H
               have c19b0 : decide (0 ≤ x11_3) = true := decide_eq_true c19
               clear c19
               (first | rw [c19b0] | (simp only [i64_w, i32_w]; rw [c19b0]) | skip)
               by_cases c20 : x11_3 < (x7_3.length : Int)
               ·rw [if_pos c20] at H
                have c20b0 : decide (x11_3 < (x7_3.length : Int)) = true := decide_eq_true c20
                clear c20
                by_cases c21 : (rd x7_3 x11_3) > 0
                ·rw [if_pos c21] at H
                 have c21b0 : decide (0 < (rd x7_3 x11_3)) = true := decide_eq_true c21
                 clear c21
                 by_cases c22 : 0 ≤ x9_2
                 ·rw [if_pos c22] at H
                  have c22b0 : decide (0 ≤ x9_2) = true := decide_eq_true c22
                  clear c22
                  by_cases c23 : x9_2 < (l0.length : Int)
                  ·rw [if_pos c23] at H
                   have c23b0 : decide (x9_2 < (l0.length : Int)) = true := decide_eq_true c23
                   clear c23
                   by_cases c24 : x11_3 < (l1.length : Int)
                   ·rw [if_pos c24] at H
                    have c24b0 : decide (x11_3 < (l1.length : Int)) = true := decide_eq_true c24
                    clear c24
                    replace H := Option.bind_eq_some_iff.mp H
                    obtain ⟨t656, A250, H⟩ := H
                    replace H : (spec_ServeRoom.j4 kj14 l0 l1 x6_3 x7_3 x9_2 x10_3 x11_3 t656) = some (r1, r2) := H
                    have A25 := Aside0.mk A250
                    clear A250
                    have H' := Aside0.mk H
                    clear H
                    try go_wp2
                    have n0_ := Aside0.mk (Kd.R_drew HO_6.out)
                    have n1_ := Aside0.mk (Kd.R_drew HO_7.out)
                    have n2_ := Aside0.mk (below_drew1 HB.out)
                    clear HO_6
                    clear HO_7
                    clear HB
                    have HO_6 := n0_
                    have HO_7 := n1_
                    have HB := n2_
                    clear n0_ n1_ n2_
                    obtain ⟨Ao27, co27, eo27⟩ := Kd.R_slice HO_7.out
                    (first | subst eo27 | (injection eo27 with f1_ f2_ f3_; have f4_ := f1_.symm; have f5_ := f3_.symm; clear f1_ f2_ f3_; subst f4_; subst f5_))
                    have p653 : 0 ≤ (x11_3 : Int) := of_decide_eq_true pA
                    have q653 : x11_3 < (x7_3.length : Int) := of_decide_eq_true pA
                    obtain ⟨ad653, e653, hx653_0⟩ := Kd.at_int (Kd.R_reads' HO_7.out).2.2 x11_3 p653 q653
                    cases e653
                    replace p653 := eq_true p653
                    replace q653 := eq_true q653
                    have p654 : 0 ≤ (x9_2 : Int) := of_decide_eq_true pA
                    have q654 : x9_2 < (l0.length : Int) := of_decide_eq_true pA
                    obtain ⟨ad654, e654, hx654_0, hx654_1, hx654_2⟩ := at_T43 HR0.out x9_2 p654 q654
                    have hw654_2 := hx654_2
                    have hw654_1 := hx654_1
                    have hw654_0 := hx654_0
                    cases e654
                    replace hx654_0 := (HB.out.cell (World.block_lt_of_cell? w _ hx654_0)).trans hx654_0
                    replace hx654_1 := (HB.out.cell (World.block_lt_of_cell? w _ hx654_1)).trans hx654_1
                    replace hx654_2 := (HB.out.cell (World.block_lt_of_cell? w _ hx654_2)).trans hx654_2
                    replace p654 := eq_true p654
                    replace q654 := eq_true q654
                    have p655 : 0 ≤ (x11_3 : Int) := of_decide_eq_true pA
                    have q655 : x11_3 < (l1.length : Int) := of_decide_eq_true pA
                    obtain ⟨ad655, e655, hx655_0, hx655_1, hx655_2⟩ := at_T32 HR1.out x11_3 p655 q655
                    have hw655_2 := hx655_2
                    have hw655_1 := hx655_1
                    have hw655_0 := hx655_0
                    cases e655
                    replace hx655_0 := (HB.out.cell (World.block_lt_of_cell? w _ hx655_0)).trans hx655_0
                    replace hx655_1 := (HB.out.cell (World.block_lt_of_cell? w _ hx655_1)).trans hx655_1
                    replace hx655_2 := (HB.out.cell (World.block_lt_of_cell? w _ hx655_2)).trans hx655_2
                    replace p655 := eq_true p655
                    replace q655 := eq_true q655
                    refine start_ (n := 16) (S := fun w' => w'.cell? (ad653.add (x11_3).toNat) = some (.int .i64 (rd x7_3 x11_3)) ∧ w'.cell? (ad654.add ((x9_2).toNat * 3)) = some (.int .i64 ((rd_T43 l0 x9_2).f0)) ∧ w'.cell? ⟨(ad654.add ((x9_2).toNat * 3)).block, (ad654.add ((x9_2).toNat * 3)).off + 1, none⟩ = some (.int .i64 ((rd_T43 l0 x9_2).f1)) ∧ w'.cell? ⟨(ad654.add ((x9_2).toNat * 3)).block, (ad654.add ((x9_2).toNat * 3)).off + 2, none⟩ = some (.int .i64 ((rd_T43 l0 x9_2).f2)) ∧ w'.cell? (ad655.add ((x11_3).toNat * 3)) = some (.int .i64 ((rd_T32 l1 x11_3).f0)) ∧ w'.cell? ⟨(ad655.add ((x11_3).toNat * 3)).block, (ad655.add ((x11_3).toNat * 3)).off + 1, none⟩ = some (.int .i64 ((rd_T32 l1 x11_3).f1)) ∧ w'.cell? ⟨(ad655.add ((x11_3).toNat * 3)).block, (ad655.add ((x11_3).toNat * 3)).off + 2, none⟩ = some (.int .i64 ((rd_T32 l1 x11_3).f2))) (ds := []) #[false, false, false, false, false, false, false, false, false, false, false, false, false, false, false, false] pL rfl rfl ⟨hx653_0, ((HB.out.cell (World.block_lt_of_cell? w _ hw654_0)).trans hw654_0), ((HB.out.cell (World.block_lt_of_cell? w _ hw654_1)).trans hw654_1), ((HB.out.cell (World.block_lt_of_cell? w _ hw654_2)).trans hw654_2), ((HB.out.cell (World.block_lt_of_cell? w _ hw655_0)).trans hw655_0), ((HB.out.cell (World.block_lt_of_cell? w _ hw655_1)).trans hw655_1), ((HB.out.cell (World.block_lt_of_cell? w _ hw655_2)).trans hw655_2)⟩ (fun hHeld => ?_); refine with_tabW spec_ServeRoom.tab16 spec_ServeRoom.bits16 (fun HT_ HW_ => ?_)
                    generalize wc.drew = w26 at HO_6 HO_7 HB hx653_0 hx654_0 hx654_1 hx654_2 hx655_0 hx655_1 hx655_2 hHeld ⊢
                    refine pure_ (i := 0) (N := some 49) (v := ?_) (a' := ?_) #[true, false, false, false, false, false, false, false, false, false, false, false, false, false, false, false] rfl rfl (any_of HT_.out pL) (fun _ _ _ h => h) (Or.inl ⟨by rfl, ?_⟩) ?_ ?_
                    rotate_left
                    ·intro w'
                     go_simp
                     with_reducible rfl
                    rotate_left
                    ·exact pP
                    refine pure_ (i := 1) (N := some 50) (v := ?_) (a' := ?_) #[true, true, false, false, false, false, false, false, false, false, false, false, false, false, false, false] rfl rfl (any_of HT_.out pL) (fun _ _ _ h => h) (Or.inl ⟨by rfl, ?_⟩) ?_ ?_
                    rotate_left
                    ·intro w'
                     go_simp
                     with_reducible rfl
                    rotate_left
                    ·exact pP
                    refine pure_ (i := 2) (N := some 51) (v := ?_) (a' := ?_) #[true, true, true, false, false, false, false, false, false, false, false, false, false, false, false, false] rfl rfl (any_of HT_.out pL) (fun _ _ _ h => h) (Or.inl ⟨by rfl, ?_⟩) ?_ ?_
                    rotate_left
                    ·intro w'
                     go_simp
                     with_reducible rfl
                    rotate_left
                    ·exact pP
                    refine take_ (i := 3) (N := some 52) (v := ?_) (a' := ?_) #[true, true, true, true, false, false, false, false, false, false, false, false, false, false, false, false] rfl rfl (take_ofW HT_.out HW_.out pL) (fun _ _ _ h => h) (Or.inl ⟨by rfl, ?_⟩) hHeld ?_ ?_
                    rotate_left
                    ·rintro w' ⟨s0, s1, s2, s3, s4, s5, s6⟩
                     go_simp
                     with_reducible rfl
                    rotate_left
                    ·exact pP
                    refine pure_ (i := 4) (N := some 53) (v := ?_) (a' := ?_) #[true, true, true, true, true, false, false, false, false, false, false, false, false, false, false, false] rfl rfl (any_of HT_.out pL) (fun _ _ _ h => h) (Or.inl ⟨by rfl, ?_⟩) ?_ ?_
                    rotate_left
                    ·intro w'
                     go_simp
                     with_reducible rfl
                    rotate_left
                    ·exact pP
                    refine pure_ (i := 5) (N := some 54) (v := ?_) (a' := ?_) #[true, true, true, true, true, true, false, false, false, false, false, false, false, false, false, false] rfl rfl (any_of HT_.out pL) (fun _ _ _ h => h) (Or.inl ⟨by rfl, ?_⟩) ?_ ?_
                    rotate_left
                    ·intro w'
                     go_simp
                     with_reducible rfl
                    rotate_left
                    ·exact pP
                    refine pure_ (i := 6) (N := some 55) (v := ?_) (a' := ?_) #[true, true, true, true, true, true, true, false, false, false, false, false, false, false, false, false] rfl rfl (any_of HT_.out pL) (fun _ _ _ h => h) (Or.inl ⟨by rfl, ?_⟩) ?_ ?_
                    rotate_left
                    ·intro w'
                     go_simp
                     with_reducible rfl
                    rotate_left
                    ·exact pP
                    refine pure_ (i := 7) (N := some 56) (v := ?_) (a' := ?_) #[true, true, true, true, true, true, true, true, false, false, false, false, false, false, false, false] rfl rfl (any_of HT_.out pL) (fun _ _ _ h => h) (Or.inl ⟨by rfl, ?_⟩) ?_ ?_
                    rotate_left
                    ·intro w'
                     go_simp
                     with_reducible rfl
                    rotate_left
                    ·exact pP
                    refine pure_ (i := 8) (N := some 57) (v := ?_) (a' := ?_) #[true, true, true, true, true, true, true, true, true, false, false, false, false, false, false, false] rfl rfl (any_of HT_.out pL) (fun _ _ _ h => h) (Or.inl ⟨by rfl, ?_⟩) ?_ ?_
                    rotate_left
                    ·intro w'
                     go_simp
                     with_reducible rfl
                    rotate_left
                    ·exact pP
                    refine pure_ (i := 10) (N := some 59) (v := ?_) (a' := ?_) #[true, true, true, true, true, true, true, true, true, false, true, false, false, false, false, false] rfl rfl (any_of HT_.out pL) (fun _ _ _ h => h) (Or.inl ⟨by rfl, ?_⟩) ?_ ?_
                    rotate_left
                    ·intro w'
                     go_simp
                     with_reducible rfl
                    rotate_left
                    ·exact pP
                    refine pure_ (i := 11) (N := some 60) (v := ?_) (a' := ?_) #[true, true, true, true, true, true, true, true, true, false, true, true, false, false, false, false] rfl rfl (any_of HT_.out pL) (fun _ _ _ h => h) (Or.inl ⟨by rfl, ?_⟩) ?_ ?_
                    rotate_left
                    ·intro w'
                     go_simp
                     with_reducible rfl
                    rotate_left
                    ·exact pP
                    refine pure_ (i := 12) (N := some 61) (v := ?_) (a' := ?_) #[true, true, true, true, true, true, true, true, true, false, true, true, true, false, false, false] rfl rfl (any_of HT_.out pL) (fun _ _ _ h => h) (Or.inl ⟨by rfl, ?_⟩) ?_ ?_
                    rotate_left
                    ·intro w'
                     go_simp
                     with_reducible rfl
                    rotate_left
                    ·exact pP
                    refine take_ (i := 9) (N := some 58) (v := ?_) (a' := ?_) #[true, true, true, true, true, true, true, true, true, true, true, true, true, false, false, false] rfl rfl (take_ofW HT_.out HW_.out pL) (fun _ _ _ h => h) (Or.inl ⟨by rfl, ?_⟩) hHeld ?_ ?_
                    rotate_left
                    ·rintro w' ⟨s0, s1, s2, s3, s4, s5, s6⟩
                     go_simp
                     with_reducible rfl
                    rotate_left
                    ·exact pP
                    refine take_ (i := 13) (N := some 62) (v := ?_) (a' := ?_) #[true, true, true, true, true, true, true, true, true, true, true, true, true, true, false, false] rfl rfl (take_ofW HT_.out HW_.out pL) (fun _ _ _ h => h) (Or.inl ⟨by rfl, ?_⟩) hHeld ?_ ?_
                    rotate_left
                    ·rintro w' ⟨s0, s1, s2, s3, s4, s5, s6⟩
                     go_simp
                     with_reducible rfl
                    rotate_left
                    ·exact pP
                    refine one_ (i := 14) (N := some 63) #[true, true, true, true, true, true, true, true, true, true, true, true, true, true, true, false] rfl rfl (one_of HT_.out pL) (by decide) (fun K hK => ?_)
                    refine goes_ Try.func63 pL rfl #[.agg #[.int .i64 ((rd_T43 l0 x9_2).f0), .int .i64 ((rd_T43 l0 x9_2).f1), .int .i64 ((rd_T43 l0 x9_2).f2)], .agg #[.int .i64 ((rd_T32 l1 x11_3).f0), .int .i64 ((rd_T32 l1 x11_3).f1), .int .i64 ((rd_T32 l1 x11_3).f2)]] (by rfl) rfl rfl pM ?_
                    with_reducible refine (spec_l14May.calls kj14 ((rd_T43 l0 x9_2).f0) ((rd_T43 l0 x9_2).f1) ((rd_T43 l0 x9_2).f2) ((rd_T32 l1 x11_3).f0) ((rd_T32 l1 x11_3).f1) ((rd_T32 l1 x11_3).f2) t656 _ A25.out).mono ?_
                    rintro e w28 ⟨rfl, hb⟩
                    have HS0_ := (hb.cell (World.block_lt_of_cell? _ _ (hHeld.1))).trans (hHeld.1)
                    refine ⟨_, rfl, ?_⟩
                    have n0_ := Aside0.mk (Kd.R_below (pR HO_6) hb)
                    have n1_ := Aside0.mk (Kd.R_below (pR HO_7) hb)
                    have n2_ := Aside0.mk (below_step pB hb)
                    clear HO_6
                    clear HO_7
                    clear HB
                    have HO_6 := n0_
                    have HO_7 := n1_
                    have HB := n2_
                    clear n0_ n1_ n2_
                    (try clear hb)
                    (try clear hb2)
                    (try clear hk)
                    (try clear hi)
                    refine hK.out _ _ ⟨HS0_, ((HB.out.cell (World.block_lt_of_cell? w _ hw654_0)).trans hw654_0), ((HB.out.cell (World.block_lt_of_cell? w _ hw654_1)).trans hw654_1), ((HB.out.cell (World.block_lt_of_cell? w _ hw654_2)).trans hw654_2), ((HB.out.cell (World.block_lt_of_cell? w _ hw655_0)).trans hw655_0), ((HB.out.cell (World.block_lt_of_cell? w _ hw655_1)).trans hw655_1), ((HB.out.cell (World.block_lt_of_cell? w _ hw655_2)).trans hw655_2)⟩ (fun hHeld => ?_)
                    clear hK K
                    refine norm_ (a' := ?_) ?_ ?_
                    rotate_left
                    ·show Act.put _ (some 63) _ = _
                     exact pP
                    refine pure_ (i := 15) (N := some 64) (v := ?_) (a' := ?_) #[true, true, true, true, true, true, true, true, true, true, true, true, true, true, true, true] rfl rfl (any_of HT_.out pL) (fun _ _ _ h => h) (Or.inl ⟨by rfl, ?_⟩) ?_ ?_
                    rotate_left
                    ·intro w'
                     go_simp
                     with_reducible rfl
                    rotate_left
                    ·exact pP
                    refine done_ (done_of HT_.out pL) ?_
                    try go_wp2
                    go_meet
                    case rel => exact ⟨_, (t656), pF, H', ⟨by have := HK1.out; have := HK2.out; have := HK3.out; have := HJ14.out; first | omega | exact Nat.le_refl _⟩, ⟨pR HO_6⟩, ⟨pR HO_7⟩, ⟨pB⟩⟩
                   ·rw [if_neg c24] at H
                    exact absurd H (by simp)
                  ·rw [if_neg c23] at H
                   exact absurd H (by simp)
                 ·rw [if_neg c22] at H
                  exact absurd H (by simp)
                ·rw [if_neg c21] at H
                 have c21b0 : decide (0 < (rd x7_3 x11_3)) = false := decide_eq_false c21
                 clear c21
                 have H' := Aside0.mk H
                 clear H
                 try go_wp2
                 have n0_ := Aside0.mk (Kd.R_drew HO_6.out)
                 have n1_ := Aside0.mk (Kd.R_drew HO_7.out)
                 have n2_ := Aside0.mk (below_drew1 HB.out)
                 clear HO_6
                 clear HO_7
                 clear HB
                 have HO_6 := n0_
                 have HO_7 := n1_
                 have HB := n2_
                 clear n0_ n1_ n2_
                 obtain ⟨Ao30, co30, eo30⟩ := Kd.R_slice HO_7.out
                 (first | subst eo30 | (injection eo30 with f1_ f2_ f3_; have f4_ := f1_.symm; have f5_ := f3_.symm; clear f1_ f2_ f3_; subst f4_; subst f5_))
                 have p653 : 0 ≤ (x11_3 : Int) := of_decide_eq_true pA
                 have q653 : x11_3 < (x7_3.length : Int) := of_decide_eq_true pA
                 obtain ⟨ad653, e653, hx653_0⟩ := Kd.at_int (Kd.R_reads' HO_7.out).2.2 x11_3 p653 q653
                 cases e653
                 replace p653 := eq_true p653
                 replace q653 := eq_true q653
                 refine start_ (n := 16) (S := fun w' => w'.cell? (ad653.add (x11_3).toNat) = some (.int .i64 (rd x7_3 x11_3))) (ds := []) #[false, false, false, false, false, false, false, false, false, false, false, false, false, false, false, false] pL rfl rfl (hx653_0) (fun hHeld => ?_); refine with_tabW spec_ServeRoom.tab16 spec_ServeRoom.bits16 (fun HT_ HW_ => ?_)
                 generalize wc.drew = w29 at HO_6 HO_7 HB hx653_0 hHeld ⊢
                 refine pure_ (i := 0) (N := some 49) (v := ?_) (a' := ?_) #[true, false, false, false, false, false, false, false, false, false, false, false, false, false, false, false] rfl rfl (any_of HT_.out pL) (fun _ _ _ h => h) (Or.inl ⟨by rfl, ?_⟩) ?_ ?_
                 rotate_left
                 ·intro w'
                  go_simp
                  with_reducible rfl
                 rotate_left
                 ·exact pP
                 refine pure_ (i := 1) (N := some 50) (v := ?_) (a' := ?_) #[true, true, false, false, false, false, false, false, false, false, false, false, false, false, false, false] rfl rfl (any_of HT_.out pL) (fun _ _ _ h => h) (Or.inl ⟨by rfl, ?_⟩) ?_ ?_
                 rotate_left
                 ·intro w'
                  go_simp
                  with_reducible rfl
                 rotate_left
                 ·exact pP
                 refine pure_ (i := 2) (N := some 51) (v := ?_) (a' := ?_) #[true, true, true, false, false, false, false, false, false, false, false, false, false, false, false, false] rfl rfl (any_of HT_.out pL) (fun _ _ _ h => h) (Or.inl ⟨by rfl, ?_⟩) ?_ ?_
                 rotate_left
                 ·intro w'
                  go_simp
                  with_reducible rfl
                 rotate_left
                 ·exact pP
                 refine take_ (i := 3) (N := some 52) (v := ?_) (a' := ?_) #[true, true, true, true, false, false, false, false, false, false, false, false, false, false, false, false] rfl rfl (take_ofW HT_.out HW_.out pL) (fun _ _ _ h => h) (Or.inl ⟨by rfl, ?_⟩) hHeld ?_ ?_
                 rotate_left
                 ·intro w' s0
                  go_simp
                  with_reducible rfl
                 rotate_left
                 ·exact pP
                 refine pure_ (i := 4) (N := some 53) (v := ?_) (a' := ?_) #[true, true, true, true, true, false, false, false, false, false, false, false, false, false, false, false] rfl rfl (any_of HT_.out pL) (fun _ _ _ h => h) (Or.inl ⟨by rfl, ?_⟩) ?_ ?_
                 rotate_left
                 ·intro w'
                  go_simp
                  with_reducible rfl
                 rotate_left
                 ·exact pP
                 refine pure_ (i := 5) (N := some 54) (v := ?_) (a' := ?_) #[true, true, true, true, true, true, false, false, false, false, false, false, false, false, false, false] rfl rfl (any_of HT_.out pL) (fun _ _ _ h => h) (Or.inl ⟨by rfl, ?_⟩) ?_ ?_
                 rotate_left
                 ·intro w'
                  go_simp
                  with_reducible rfl
                 rotate_left
                 ·exact pP
                 refine pure_ (i := 6) (N := some 55) (v := undef) (a' := ?_) #[true, true, true, true, true, true, true, false, false, false, false, false, false, false, false, false] rfl rfl (any_of HT_.out pL) (fun _ _ _ h => h) (Or.inr ⟨by rfl, rfl⟩) ?_ ?_
                 rotate_left
                 ·exact pP
                 refine pure_ (i := 7) (N := some 56) (v := undef) (a' := ?_) #[true, true, true, true, true, true, true, true, false, false, false, false, false, false, false, false] rfl rfl (any_of HT_.out pL) (fun _ _ _ h => h) (Or.inr ⟨by rfl, rfl⟩) ?_ ?_
                 rotate_left
                 ·exact pP
                 refine pure_ (i := 8) (N := some 57) (v := undef) (a' := ?_) #[true, true, true, true, true, true, true, true, true, false, false, false, false, false, false, false] rfl rfl (any_of HT_.out pL) (fun _ _ _ h => h) (Or.inr ⟨by rfl, rfl⟩) ?_ ?_
                 rotate_left
                 ·exact pP
                 refine pure_ (i := 9) (N := some 58) (v := undef) (a' := ?_) #[true, true, true, true, true, true, true, true, true, true, false, false, false, false, false, false] rfl rfl (any_of HT_.out pL) (fun _ _ _ h => h) (Or.inr ⟨by rfl, rfl⟩) ?_ ?_
                 rotate_left
                 ·exact pP
                 refine pure_ (i := 10) (N := some 59) (v := undef) (a' := ?_) #[true, true, true, true, true, true, true, true, true, true, true, false, false, false, false, false] rfl rfl (any_of HT_.out pL) (fun _ _ _ h => h) (Or.inr ⟨by rfl, rfl⟩) ?_ ?_
                 rotate_left
                 ·exact pP
                 refine pure_ (i := 11) (N := some 60) (v := undef) (a' := ?_) #[true, true, true, true, true, true, true, true, true, true, true, true, false, false, false, false] rfl rfl (any_of HT_.out pL) (fun _ _ _ h => h) (Or.inr ⟨by rfl, rfl⟩) ?_ ?_
                 rotate_left
                 ·exact pP
                 refine pure_ (i := 12) (N := some 61) (v := undef) (a' := ?_) #[true, true, true, true, true, true, true, true, true, true, true, true, true, false, false, false] rfl rfl (any_of HT_.out pL) (fun _ _ _ h => h) (Or.inr ⟨by rfl, rfl⟩) ?_ ?_
                 rotate_left
                 ·exact pP
                 refine pure_ (i := 13) (N := some 62) (v := undef) (a' := ?_) #[true, true, true, true, true, true, true, true, true, true, true, true, true, true, false, false] rfl rfl (any_of HT_.out pL) (fun _ _ _ h => h) (Or.inr ⟨by rfl, rfl⟩) ?_ ?_
                 rotate_left
                 ·exact pP
                 refine pure_ (i := 14) (N := some 63) (v := undef) (a' := ?_) #[true, true, true, true, true, true, true, true, true, true, true, true, true, true, true, false] rfl rfl (any_of HT_.out pL) (fun _ _ _ h => h) (Or.inr ⟨by rfl, rfl⟩) ?_ ?_
                 rotate_left
                 ·exact pP
                 refine pure_ (i := 15) (N := some 64) (v := ?_) (a' := ?_) #[true, true, true, true, true, true, true, true, true, true, true, true, true, true, true, true] rfl rfl (any_of HT_.out pL) (fun _ _ _ h => h) (Or.inl ⟨by rfl, ?_⟩) ?_ ?_
                 rotate_left
                 ·intro w'
                  go_simp
                  with_reducible rfl
                 rotate_left
                 ·exact pP
                 refine done_ (done_of HT_.out pL) ?_
                 try go_wp2
                 go_meet
                 case rel => exact ⟨_, (false), pF, H', ⟨by have := HK1.out; have := HK2.out; have := HK3.out; have := HJ14.out; first | omega | exact Nat.le_refl _⟩, ⟨pR HO_6⟩, ⟨pR HO_7⟩, ⟨pB⟩⟩
               ·rw [if_neg c20] at H
                exact absurd H (by simp)
              ·rw [if_neg c19] at H
               exact absurd H (by simp)
             case rest =>
              clear HC18
              try clear c1
              try clear c2
              try clear p2
              try clear c4
              try clear c6
              try clear p6
              try clear q6
              try clear hx6
              try clear c10
              try clear c10b0
              try clear c11
              try clear c11b0
              try clear c12
              try clear c14
              try clear c14b0
              try clear c16
              try clear c16b0
              try clear c17
              try clear c19
              try clear c19b0
              try clear c20
              try clear c20b0
              try clear c21
              try clear c21b0
              try clear c22
              try clear c22b0
              try clear c23
              try clear c23b0
              try clear c24
              try clear c24b0
              try clear hx646_0
              try clear hx646_1
              try clear hx646_2
              try clear hx653_0
              try clear hx654_0
              try clear hx654_1
              try clear hx654_2
              try clear hx655_0
              try clear hx655_1
              try clear hx655_2
              try clear p2
              try clear p6
              try clear p646
              try clear p653
              try clear p654
              try clear p655
              try clear q6
              try clear q646
              try clear q653
              try clear q654
              try clear q655
              obtain ⟨kq, x64_17, rfl, HA, HJ17, HO_6, HO_7, HB⟩ := hcut
              cases kq with
              | zero => exact absurd HA.out (by simp [spec_ServeRoom.j4])
              | succ kj17 =>
               have H := HA.out
               clear HA
               simp only [spec_ServeRoom.j4] at H
               by_cases c31 : x64_17 = true
               ·subst c31
                have H1 : (if 0 ≤ x11_3 then (if x11_3 < (x7_3.length : Int) then ((some (x7_3.set (x11_3 : Int).toNat (wrap64 ((rd x7_3 x11_3) - 1)) : List Int)).bind fun y658 => ((spec_l14Some.f kj17 l0 l1 (wrap64 (x9_2 + 1)) y658).bind fun t659 => (if t659 = true then (if x6_3.length < 17592186044416 then (spec_ServeRoom.l2 kj17 l0 l1 (x6_3 ++ [x11_3]) y658 x9_2 t659 (wrap64 (x11_3 + 1))) else (none)) else (spec_ServeRoom.l2 kj17 l0 l1 x6_3 (y658.set (x11_3 : Int).toNat (wrap64 ((rd y658 x11_3) + 1))) x9_2 t659 (wrap64 (x11_3 + 1)))))) else (none)) else (none)) = some (r1, r2) := by rw [if_pos rfl] at H; exact H
                clear H
                have H := H1
                clear H1
                by_cases c32 : 0 ≤ x11_3
                ·rw [if_pos c32] at H
                 have c32b0 : decide (0 ≤ x11_3) = true := decide_eq_true c32
                 clear c32
                 by_cases c33 : x11_3 < (x7_3.length : Int)
                 ·rw [if_pos c33] at H
                  have c33b0 : decide (x11_3 < (x7_3.length : Int)) = true := decide_eq_true c33
                  clear c33
                  obtain ⟨y658, hy658⟩ : ∃ y_ : List Int, y_ = (x7_3.set (x11_3 : Int).toNat (wrap64 ((rd x7_3 x11_3) - 1))) := ⟨_, rfl⟩
                  replace H : ((spec_l14Some.f kj17 l0 l1 (wrap64 (x9_2 + 1)) y658).bind fun t659 => (if t659 = true then (if x6_3.length < 17592186044416 then (spec_ServeRoom.l2 kj17 l0 l1 (x6_3 ++ [x11_3]) y658 x9_2 t659 (wrap64 (x11_3 + 1))) else (none)) else (spec_ServeRoom.l2 kj17 l0 l1 x6_3 (y658.set (x11_3 : Int).toNat (wrap64 ((rd y658 x11_3) + 1))) x9_2 t659 (wrap64 (x11_3 + 1))))) = some (r1, r2) := by first | (rw [hy658]; with_reducible exact H) | (have H2_ := (Option.bind_some _ _).symm.trans H; rw [hy658]; with_reducible exact H2_) | (have H2_ := (Option.bind_some _ _).symm.trans H; with_reducible exact H2_) | with_reducible exact H | (rw [hy658]; exact H) | exact H
                  have Ny658 := Aside0.mk hy658
                  clear hy658
                  replace H := Option.bind_eq_some_iff.mp H
                  obtain ⟨t659, A350, H⟩ := H
                  replace H : (if t659 = true then (if x6_3.length < 17592186044416 then (spec_ServeRoom.l2 kj17 l0 l1 (x6_3 ++ [x11_3]) y658 x9_2 t659 (wrap64 (x11_3 + 1))) else (none)) else (spec_ServeRoom.l2 kj17 l0 l1 x6_3 (y658.set (x11_3 : Int).toNat (wrap64 ((rd y658 x11_3) + 1))) x9_2 t659 (wrap64 (x11_3 + 1)))) = some (r1, r2) := H
                  have A35 := Aside0.mk A350
                  clear A350
                  by_cases c36 : t659 = true
                  ·subst c36
                   have H1 : (if x6_3.length < 17592186044416 then (spec_ServeRoom.l2 kj17 l0 l1 (x6_3 ++ [x11_3]) y658 x9_2 true (wrap64 (x11_3 + 1))) else (none)) = some (r1, r2) := by rw [if_pos rfl] at H; exact H
                   clear H
                   have H := H1
                   clear H1
                   by_cases c37 : x6_3.length < 17592186044416
                   ·rw [if_pos c37] at H
                    have LMc37 := Aside0.mk c37
                    clear c37
                    obtain ⟨y660, hy660⟩ : ∃ y_ : List Int, y_ = (x6_3 ++ [x11_3]) := ⟨_, rfl⟩
                    replace H : (spec_ServeRoom.l2 kj17 l0 l1 y660 y658 x9_2 true (wrap64 (x11_3 + 1))) = some (r1, r2) := by first | (rw [hy660]; with_reducible exact H) | (have H2_ := (Option.bind_some _ _).symm.trans H; rw [hy660]; with_reducible exact H2_) | (have H2_ := (Option.bind_some _ _).symm.trans H; with_reducible exact H2_) | with_reducible exact H | (rw [hy660]; exact H) | exact H
                    have Ny660 := Aside0.mk hy660
                    clear hy660
                    have H' := Aside0.mk H
                    clear H
                    obtain ⟨Ao38, co38, eo38⟩ := Kd.R_slice HO_7.out
                    subst eo38
                    have p657 : 0 ≤ (x11_3 : Int) := of_decide_eq_true pA
                    have q657 : x11_3 < (x7_3.length : Int) := of_decide_eq_true pA
                    obtain ⟨ad657, e657, hx657_0⟩ := Kd.at_int (Kd.R_reads' HO_7.out).2.2 x11_3 p657 q657
                    cases e657
                    replace p657 := eq_true p657
                    replace q657 := eq_true q657
                    have p34 : 0 ≤ (x11_3 : Int) := of_decide_eq_true pA
                    have q34 : (x11_3 : Int) < ((x7_3.length : Int) : Int) := of_decide_eq_true pA
                    obtain ⟨go34, co34, eo34, gb34, gl34, cl34, HG34⟩ := Kd.R_form HO_7.out (by omega)
                    (first | cases eo34 | (injection eo34 with ea_ en_ ec_; (first | subst ea_ | (injection ea_ with ea_; subst ea_)); subst ec_; clear en_))
                    have GB34 := Aside0.mk gb34
                    have GG34 := Aside0.mk HG34
                    clear gb34 gl34 HG34
                    (first | simp only [add_plain] at hx657_0 | skip)
                    obtain ⟨hx34_0, hf34_0⟩ := Kd.R_celln 0 HO_7.out (x11_3 : Int) p34 q34
                    replace p34 := eq_true p34
                    replace q34 := eq_true q34
                    have HP39 := Kd.R_putg HO_7.out (x11_3 : Int) (wrap64 ((rd x7_3 x11_3) - 1))
                    go_wp2_with (first | ((with_reducible refine gate_store (t := 3) (p := 72) rfl ?_); refine store_event (t := 3) (p := 72) (v := ?vo_w40) (w1 := (wc.setCell ⟨go34, (x11_3 : Int).toNat, none⟩ (.int .i64 (wrap64 ((rd x7_3 x11_3) - 1))))) ?hg ?ho ?hn ?hr ?_; (case ho => rfl); (case hg => rfl); (case hn => rfl); (case hr => first | (go_simp; done) | (go_simp; rfl)); intro w40 hw; have hg : wc.grownBy w40 (some go34) := (by rw [hw]; exact HP39.2); have hp_ : Kd.R (Kd.int .i64) 3 w40 w.heap.size (fun k_ => some k_ ≠ (u6 : Value).ownBlock) (.slice (some ⟨go34, 0, none⟩) x7_3.length co38) y658 := (by rw [hw, Ny658.out]; exact HP39.1); clear HP39; have n0_ := Aside0.mk (Kd.R_after (v := (.slice (some ⟨go34, 0, none⟩) x7_3.length co38)) (v1 := (.slice (some ⟨go34, 0, none⟩) x7_3.length co38)) (ok := (fun _ => True)) (by (with_reducible repeat (first | apply Kd.R_alloc | apply Kd.R_drewN | apply Kd.R_drew)); exact Kd.R_mono HO_6.out (fun _ hk => ⟨trivial, hk⟩)) hg (.inl rfl)); have n1_ := Aside0.mk (hp_); have n2_ := Aside0.mk ((by rw [hw]; exact below_set (HB.out) GB34.out : Below w.heap.size w w40)); clear HO_6; clear HO_7; clear HB; have HO_6 := n0_; have HO_7 := n1_; have HB := n2_; clear n0_ n1_ n2_; clear hg hw hp_) | ((with_reducible refine gate_callee (f := 70) rfl ?_); refine goesL_ (some 78) rfl rfl Try.func70 pL rfl #[.slice A0 l0.length c0, .slice A1 l1.length c1, .int .i64 (wrap64 (x9_2 + 1)), .slice (some ⟨go34, 0, none⟩) y658.length co38] rfl (by (try simp only [List.map_toArray, List.map_cons, List.map_nil]); first | done | (rw [show y658.length = x7_3.length from (Kd.R_reads' HO_7.out).1.symm] <;> rfl) | rfl | (simp only [List.length_drop, List.length_take]; rfl)) ?_; (with_reducible refine (spec_l14Some.calls kj17 _ _ l0 _ _ l1 (wrap64 (x9_2 + 1)) _ _ y658 true _ ?side1 ?side2 ?side3 ?side4 ?side5 ?side6 A35.out).mono ?_); (case side1 => exact pS ((Kd.C_below HR0.out HB.out))); (case side2 => exact HC0.out); (case side3 => exact pS ((Kd.C_below HR1.out HB.out))); (case side4 => exact HC1.out); (case side5 => exact pS ((Kd.R_reads' HO_7.out).2.2)); (case side6 => rw [show y658.length = x7_3.length from (Kd.R_reads' HO_7.out).1.symm]; exact (Kd.R_reads' HO_7.out).2.1); rintro e w41 ⟨rfl, hb⟩; refine ⟨_, rfl, ?_⟩; have n0_ := Aside0.mk (Kd.R_below (pR HO_6) hb); have n1_ := Aside0.mk (Kd.R_below (pR HO_7) hb); have n2_ := Aside0.mk (below_step pB hb); clear HO_6; clear HO_7; clear HB; have HO_6 := n0_; have HO_7 := n1_; have HB := n2_; clear n0_ n1_ n2_; (try clear hb); (try clear hb2); (try clear hk); (try clear hi)) | ((with_reducible refine gate_builtin (b := .append) (xs := #[.tmp 80, .tmp 82]) rfl ?_); at_builtin; refine Kd.R_append (Kd.int .i64) (w0 := w) w.heap.size rfl (.tmp 80) (.tmp 82) 37 3 (.int .i64 0) 8 rfl Try.underlying37 info3 rfl (by decide) (by omega) u6 x6_3 x11_3 [.int .i64 x11_3] (fun k_ => some k_ ≠ (.slice (some ⟨go34, 0, none⟩) x7_3.length co38 : Value).ownBlock) (fun _ => False) rfl rfl ?aP (fun _ hk => hk.elim) ?aF ?aO ?aB ?aS ?aL ?_; (case aP => exact rfl); (case aB => exact pB); (case aF => exact (fun k_ hk => Kd.fresh' (Kd.R_lt (pR HO_7)) k_ hk)); (case aO => exact (by (with_reducible repeat (first | apply Kd.R_alloc | apply Kd.R_drewN | apply Kd.R_drew)); exact Kd.R_mono HO_6.out (fun _ hk => hk.2))); (case aS => exact (below_size pB)); (case aL => have := LMc37.out; omega); intro v661 w42 ho hb hg hat; rw [← Ny660.out] at ho; have n0_ := Aside0.mk (Kd.R_after (ok := (fun _ => True)) (by (with_reducible repeat (first | apply Kd.R_alloc | apply Kd.R_drewN | apply Kd.R_drew)); exact Kd.R_mono HO_7.out (fun _ hk => ⟨trivial, hk⟩)) hg hat); have n1_ := Aside0.mk (hb); have n2_ := Aside0.mk (ho); clear HO_7; clear HB; clear HO_6; have HO_7 := n0_; have HB := n1_; have HO662 := n2_; clear n0_ n1_ n2_; clear ho hb hg hat))
                    go_roundg kj17
                    case measure => have := HK1.out; have := HK2.out; have := HK3.out; have := HJ14.out; have := HJ17.out; omega
                    case rel => exact ⟨(y660), (y658), (true), (wrap64 (x11_3 + 1)), pF, pF, H', ⟨by have := HK1.out; have := HK2.out; have := HK3.out; have := HJ14.out; have := HJ17.out; omega⟩, ⟨pR HO662⟩, ⟨by (with_reducible repeat (first | apply Kd.R_alloc | apply Kd.R_drewN | apply Kd.R_drew)); exact Kd.R_mono HO_7.out (fun _ hk => hk.2)⟩, ⟨pB⟩⟩
                   ·rw [if_neg c37] at H
                    exact absurd H (by simp)
                  ·replace c36 := Bool.eq_false_iff.mpr c36
                   subst c36
                   have H1 : (spec_ServeRoom.l2 kj17 l0 l1 x6_3 (y658.set (x11_3 : Int).toNat (wrap64 ((rd y658 x11_3) + 1))) x9_2 false (wrap64 (x11_3 + 1))) = some (r1, r2) := by rw [if_neg (show ¬ (false = true) by decide)] at H; exact H
                   clear H
                   have H := H1
                   clear H1
                   obtain ⟨y664, hy664⟩ : ∃ y_ : List Int, y_ = (y658.set (x11_3 : Int).toNat (wrap64 ((rd y658 x11_3) + 1))) := ⟨_, rfl⟩
                   replace H : (spec_ServeRoom.l2 kj17 l0 l1 x6_3 y664 x9_2 false (wrap64 (x11_3 + 1))) = some (r1, r2) := by first | (rw [hy664]; with_reducible exact H) | (have H2_ := (Option.bind_some _ _).symm.trans H; rw [hy664]; with_reducible exact H2_) | (have H2_ := (Option.bind_some _ _).symm.trans H; with_reducible exact H2_) | with_reducible exact H | (rw [hy664]; exact H) | exact H
                   have Ny664 := Aside0.mk hy664
                   clear hy664
                   have H' := Aside0.mk H
                   clear H
                   obtain ⟨Ao44, co44, eo44⟩ := Kd.R_slice HO_7.out
                   subst eo44
                   have p657 : 0 ≤ (x11_3 : Int) := of_decide_eq_true pA
                   have q657 : x11_3 < (x7_3.length : Int) := of_decide_eq_true pA
                   obtain ⟨ad657, e657, hx657_0⟩ := Kd.at_int (Kd.R_reads' HO_7.out).2.2 x11_3 p657 q657
                   cases e657
                   replace p657 := eq_true p657
                   replace q657 := eq_true q657
                   have p34 : 0 ≤ (x11_3 : Int) := of_decide_eq_true pA
                   have q34 : (x11_3 : Int) < ((x7_3.length : Int) : Int) := of_decide_eq_true pA
                   obtain ⟨go34, co34, eo34, gb34, gl34, cl34, HG34⟩ := Kd.R_form HO_7.out (by omega)
                   (first | cases eo34 | (injection eo34 with ea_ en_ ec_; (first | subst ea_ | (injection ea_ with ea_; subst ea_)); subst ec_; clear en_))
                   have GB34 := Aside0.mk gb34
                   have GG34 := Aside0.mk HG34
                   clear gb34 gl34 HG34
                   (first | simp only [add_plain] at hx657_0 | skip)
                   obtain ⟨hx34_0, hf34_0⟩ := Kd.R_celln 0 HO_7.out (x11_3 : Int) p34 q34
                   replace p34 := eq_true p34
                   replace q34 := eq_true q34
                   have HP45 := Kd.R_putg HO_7.out (x11_3 : Int) (wrap64 ((rd x7_3 x11_3) - 1))
                   go_wp2_with (first | ((with_reducible refine gate_store (t := 3) (p := 72) rfl ?_); refine store_event (t := 3) (p := 72) (v := ?vo_w46) (w1 := (wc.setCell ⟨go34, (x11_3 : Int).toNat, none⟩ (.int .i64 (wrap64 ((rd x7_3 x11_3) - 1))))) ?hg ?ho ?hn ?hr ?_; (case ho => rfl); (case hg => rfl); (case hn => rfl); (case hr => first | (go_simp; done) | (go_simp; rfl)); intro w46 hw; have hg : wc.grownBy w46 (some go34) := (by rw [hw]; exact HP45.2); have hp_ : Kd.R (Kd.int .i64) 3 w46 w.heap.size (fun k_ => some k_ ≠ (u6 : Value).ownBlock) (.slice (some ⟨go34, 0, none⟩) x7_3.length co44) y658 := (by rw [hw, Ny658.out]; exact HP45.1); clear HP45; have n0_ := Aside0.mk (Kd.R_after (v := (.slice (some ⟨go34, 0, none⟩) x7_3.length co44)) (v1 := (.slice (some ⟨go34, 0, none⟩) x7_3.length co44)) (ok := (fun _ => True)) (by (with_reducible repeat (first | apply Kd.R_alloc | apply Kd.R_drewN | apply Kd.R_drew)); exact Kd.R_mono HO_6.out (fun _ hk => ⟨trivial, hk⟩)) hg (.inl rfl)); have n1_ := Aside0.mk (hp_); have n2_ := Aside0.mk ((by rw [hw]; exact below_set (HB.out) GB34.out : Below w.heap.size w w46)); clear HO_6; clear HO_7; clear HB; have HO_6 := n0_; have HO_7 := n1_; have HB := n2_; clear n0_ n1_ n2_; clear hg hw hp_) | ((with_reducible refine gate_callee (f := 70) rfl ?_); refine goesL_ (some 78) rfl rfl Try.func70 pL rfl #[.slice A0 l0.length c0, .slice A1 l1.length c1, .int .i64 (wrap64 (x9_2 + 1)), .slice (some ⟨go34, 0, none⟩) y658.length co44] rfl (by (try simp only [List.map_toArray, List.map_cons, List.map_nil]); first | done | (rw [show y658.length = x7_3.length from (Kd.R_reads' HO_7.out).1.symm] <;> rfl) | rfl | (simp only [List.length_drop, List.length_take]; rfl)) ?_; (with_reducible refine (spec_l14Some.calls kj17 _ _ l0 _ _ l1 (wrap64 (x9_2 + 1)) _ _ y658 false _ ?side1 ?side2 ?side3 ?side4 ?side5 ?side6 A35.out).mono ?_); (case side1 => exact pS ((Kd.C_below HR0.out HB.out))); (case side2 => exact HC0.out); (case side3 => exact pS ((Kd.C_below HR1.out HB.out))); (case side4 => exact HC1.out); (case side5 => exact pS ((Kd.R_reads' HO_7.out).2.2)); (case side6 => rw [show y658.length = x7_3.length from (Kd.R_reads' HO_7.out).1.symm]; exact (Kd.R_reads' HO_7.out).2.1); rintro e w47 ⟨rfl, hb⟩; refine ⟨_, rfl, ?_⟩; have n0_ := Aside0.mk (Kd.R_below (pR HO_6) hb); have n1_ := Aside0.mk (Kd.R_below (pR HO_7) hb); have n2_ := Aside0.mk (below_step pB hb); clear HO_6; clear HO_7; clear HB; have HO_6 := n0_; have HO_7 := n1_; have HB := n2_; clear n0_ n1_ n2_; (try clear hb); (try clear hb2); (try clear hk); (try clear hi); have p663 : 0 ≤ (x11_3 : Int) := of_decide_eq_true pA; have q663 : x11_3 < (y658.length : Int) := (by have h_ : (x11_3 : Int) < ((x7_3.length : Int) : Int) := of_decide_eq_true pA; first | (have e_ := (Kd.R_reads' HO_7.out).1; omega) | simpa only [Ny658.out, List.length_set] using h_); have ql663 : ((x11_3 : Int) < ((x7_3.length : Int) : Int)) = True := eq_true (of_decide_eq_true pA); obtain ⟨ad663, e663, hx663_0⟩ := Kd.at_int (Kd.R_reads' HO_7.out).2.2 x11_3 p663 q663; obtain rfl : (⟨go34, 0, none⟩ : Addr) = ad663 := (by injection e663); (first | simp only [add_plain] at hx663_0 | simp only [add_at] at hx663_0 | simp only [Addr.add, Nat.zero_add] at hx663_0 | skip); replace p663 := eq_true p663; replace q663 := eq_true q663; have p43 : 0 ≤ (x11_3 : Int) := of_decide_eq_true pA; have q43 : (x11_3 : Int) < ((x7_3.length : Int) : Int) := of_decide_eq_true pA; obtain ⟨hx43_0, hf43_0⟩ := Kd.R_celln 0 HO_7.out (x11_3 : Int) p43 q43; replace p43 := eq_true p43; replace q43 := eq_true q43; obtain ⟨hy48_, hz48_⟩ := Kd.R_celln 0 HO_7.out (x11_3 : Int) (of_decide_eq_true pA) (of_decide_eq_true pA); have HP48 := Kd.R_putg HO_7.out (x11_3 : Int) (wrap64 ((rd y658 x11_3) + 1))) | ((with_reducible refine gate_store (t := 3) (p := 91) rfl ?_); refine store_event (t := 3) (p := 91) (v := ?vo_w49) (w1 := (w47.setCell ⟨go34, (x11_3 : Int).toNat, none⟩ (.int .i64 (wrap64 ((rd y658 x11_3) + 1))))) ?hg ?ho ?hn ?hr ?_; (case ho => rfl); (case hg => rfl); (case hn => rfl); (case hr => first | (go_simp; done) | (go_simp; rfl)); intro w49 hw; have hg : w47.grownBy w49 (some go34) := (by rw [hw]; exact HP48.2); have hp_ : Kd.R (Kd.int .i64) 3 w49 w.heap.size (fun k_ => some k_ ≠ (u6 : Value).ownBlock) (.slice (some ⟨go34, 0, none⟩) x7_3.length co44) y664 := (by rw [hw, Ny664.out]; exact HP48.1); clear HP48; have n0_ := Aside0.mk (Kd.R_after (v := (.slice (some ⟨go34, 0, none⟩) x7_3.length co44)) (v1 := (.slice (some ⟨go34, 0, none⟩) x7_3.length co44)) (ok := (fun _ => True)) (pR HO_6) hg (.inl rfl)); have n1_ := Aside0.mk (hp_); have n2_ := Aside0.mk ((by rw [hw]; exact below_set (HB.out) GB34.out : Below w.heap.size w w49)); clear HO_6; clear HO_7; clear HB; have HO_6 := n0_; have HO_7 := n1_; have HB := n2_; clear n0_ n1_ n2_; clear hg hw hp_))
                   go_roundg kj17
                   case measure => have := HK1.out; have := HK2.out; have := HK3.out; have := HJ14.out; have := HJ17.out; omega
                   case rel => exact ⟨(x6_3), (y664), (false), (wrap64 (x11_3 + 1)), pF, pF, H', ⟨by have := HK1.out; have := HK2.out; have := HK3.out; have := HJ14.out; have := HJ17.out; omega⟩, ⟨by (with_reducible repeat (first | apply Kd.R_alloc | apply Kd.R_drewN | apply Kd.R_drew)); exact Kd.R_mono HO_6.out (fun _ hk => hk.2)⟩, ⟨pR HO_7⟩, ⟨pB⟩⟩
                 ·rw [if_neg c33] at H
                  exact absurd H (by simp)
                ·rw [if_neg c32] at H
                 exact absurd H (by simp)
               ·replace c31 := Bool.eq_false_iff.mpr c31
                subst c31
                have H1 : (spec_ServeRoom.l2 kj17 l0 l1 x6_3 x7_3 x9_2 x10_3 (wrap64 (x11_3 + 1))) = some (r1, r2) := by rw [if_neg (show ¬ (false = true) by decide)] at H; exact H
                clear H
                have H := H1
                clear H1
                have H' := Aside0.mk H
                clear H
                go_wp2
                go_roundg kj17
                case measure => have := HK1.out; have := HK2.out; have := HK3.out; have := HJ14.out; have := HJ17.out; omega
                case rel => exact ⟨(x6_3), (x7_3), (x10_3), (wrap64 (x11_3 + 1)), pF, pF, H', ⟨by have := HK1.out; have := HK2.out; have := HK3.out; have := HJ14.out; have := HJ17.out; omega⟩, ⟨pR HO_6⟩, ⟨pR HO_7⟩, ⟨pB⟩⟩
            ·replace c17 := Bool.eq_false_iff.mpr c17
             subst c17
             have H1 : (if x10_3 = true then (spec_ServeRoom.l1 kj14 l0 l1 x6_3 x7_3 (wrap64 (x9_2 + 1))) else (some ((([] : List Int)), false))) = some (r1, r2) := by rw [if_neg (show ¬ (false = true) by decide)] at H; exact H
             clear H
             have H := H1
             clear H1
             by_cases c50 : x10_3 = true
             ·subst c50
              have H1 : (spec_ServeRoom.l1 kj14 l0 l1 x6_3 x7_3 (wrap64 (x9_2 + 1))) = some (r1, r2) := by rw [if_pos rfl] at H; exact H
              clear H
              have H := H1
              clear H1
              have H' := Aside0.mk H
              clear H
              go_wp2
              go_roundg kj14
              case measure => have := HK1.out; have := HK2.out; have := HK3.out; have := HJ14.out; omega
              case rel => exact ⟨(x6_3), (x7_3), (wrap64 (x9_2 + 1)), pF, H', ⟨by have := HK1.out; have := HK2.out; have := HK3.out; have := HJ14.out; omega⟩, ⟨pR HO_6⟩, ⟨pR HO_7⟩, ⟨pB⟩⟩
             ·replace c50 := Bool.eq_false_iff.mpr c50
              subst c50
              have H1 : (some ((([] : List Int)), false)) = some (r1, r2) := by rw [if_neg (show ¬ (false = true) by decide)] at H; exact H
              clear H
              have H := H1
              clear H1
              obtain ⟨y650, hy650⟩ : ∃ y_ : List Int, y_ = (([] : List Int)) := ⟨_, rfl⟩
              replace H : (some (y650, false)) = some (r1, r2) := by first | (rw [hy650]; with_reducible exact H) | (have H2_ := (Option.bind_some _ _).symm.trans H; rw [hy650]; with_reducible exact H2_) | (have H2_ := (Option.bind_some _ _).symm.trans H; with_reducible exact H2_) | with_reducible exact H | (rw [hy650]; exact H) | exact H
              have Ny650 := Aside0.mk hy650
              clear hy650
              simp only [Option.some.injEq, Prod.mk.injEq] at H
              obtain ⟨rfl, rfl⟩ := H
              go_wp2_with (first | ((with_reducible refine gate_dst (N := 94) rfl ?_); refine Kd.R_lit (Kd.int .i64) _ 3 ?hg (N := 94) ?hd (xs := ([] : List Int)) (inner := []) (ok := fun _ => True) (okp := fun _ => True) ?hr ?hp (fun _ hk => hk) trivial (Below.refl _ _) (Nat.le_refl _) (by simp) ?_; (case hd => rfl); (case hg => rfl); (case hr => first | (go_simp; done) | (go_simp; rfl)); (case hp => exact (Reps.none _ _)); intro v651 w51 ho52 hb hg_ hnew_; clear hg_ hnew_; (first | rw [← Ny650.out] at ho52 | (simp only [Int.reduceToNat] at ho52; rw [← Ny650.out] at ho52)); have n0_ := Aside0.mk (Kd.R_elder' (pR HO_6) (Kd.R_base ho52) hb); have n1_ := Aside0.mk (Kd.R_elder' (pR HO_7) (Kd.R_base ho52) hb); have n2_ := Aside0.mk (Kd.R_lower (Kd.R_new' (Kd.R_new' ho52 (Kd.R_lt (pR HO_6))) (Kd.R_lt (pR HO_7))) (below_size pB)); have n3_ := Aside0.mk (below_step pB hb); clear HO_6; clear HO_7; clear HB; have HO_6 := n0_; have HO_7 := n1_; have HO652 := n2_; have HB := n3_; clear n0_ n1_ n2_ n3_; clear hb ho52))
              go_ret2
              exact ⟨_, pE, by (with_reducible repeat (first | apply Kd.R_alloc | apply Kd.R_drewN | apply Kd.R_drew)); exact Kd.R_mono HO652.out (fun _ hk => trivial), pB⟩
       ·rw [if_neg c14] at H
        have c14b0 : decide (x9_2 < (l0.length : Int)) = false := decide_eq_false c14
        clear c14
        simp only [Option.some.injEq, Prod.mk.injEq] at H
        obtain ⟨rfl, rfl⟩ := H
        go_wp2
        go_ret2
        exact ⟨_, pE, by (with_reducible repeat (first | apply Kd.R_alloc | apply Kd.R_drewN | apply Kd.R_drew)); exact Kd.R_mono HO_6.out (fun _ hk => trivial), pB⟩
 ·replace c4 := Bool.eq_false_iff.mpr c4
  subst c4
  have H1 : (some (y639, false)) = some (r1, r2) := by rw [if_neg (show ¬ (false = true) by decide)] at H; exact H
  clear H
  have H := H1
  clear H1
  simp only [Option.some.injEq, Prod.mk.injEq] at H
  obtain ⟨rfl, rfl⟩ := H
  go_enter Try.func44, Try.ntmps44
  go_wp2_with (first | ((with_reducible refine gate_dst (N := 12) rfl ?_); refine Kd.R_lit (Kd.int .i64) _ 3 ?hg (N := 12) ?hd (xs := ([] : List Int)) (inner := []) (ok := fun _ => True) (okp := fun _ => True) ?hr ?hp (fun _ hk => hk) trivial (Below.refl _ _) (Nat.le_refl _) (by simp) ?_; (case hd => rfl); (case hg => rfl); (case hr => first | (go_simp; done) | (go_simp; rfl)); (case hp => exact (Reps.none _ _)); intro v640 w53 ho54 hb hg_ hnew_; clear hg_ hnew_; (first | rw [← Ny639.out] at ho54 | (simp only [Int.reduceToNat] at ho54; rw [← Ny639.out] at ho54)); have n0_ := Aside0.mk (Kd.R_lower ho54 (below_size pB)); have n1_ := Aside0.mk (below_step pB hb); clear HB; have HO641 := n0_; have HB := n1_; clear n0_ n1_; clear hb ho54) | ((with_reducible refine gate_callee (f := 62) rfl ?_); refine goesL_ (some 15) rfl rfl Try.func62 pL rfl #[.slice A0 l0.length c0, .slice A1 l1.length c1] rfl pM ?_; (with_reducible refine (spec_l14Ok.calls k _ _ l0 _ _ l1 false _ ?side1 ?side2 ?side3 ?side4 A3.out).mono ?_); (case side1 => exact pS ((Kd.C_below HR0.out HB.out))); (case side2 => exact HC0.out); (case side3 => exact pS ((Kd.C_below HR1.out HB.out))); (case side4 => exact HC1.out); rintro e w55 ⟨rfl, hb⟩; refine ⟨_, rfl, ?_⟩; have n0_ := Aside0.mk (Kd.R_below (pR HO641) hb); have n1_ := Aside0.mk (below_step pB hb); clear HO641; clear HB; have HO641 := n0_; have HB := n1_; clear n0_ n1_; (try clear hb); (try clear hb2); (try clear hk); (try clear hi)))
  go_ret2
  exact ⟨_, pE, pR HO641, pB⟩

end Go.Proofs.Ytehenjjaekkcfaa.Q
